/- What the walks ask of the library's variables; the witness's world. -/
import Derived.Test.YtifpjidkfemkfaaDoorYXArgs
set_option linter.unusedVariables false
set_option linter.unusedSimpArgs false
namespace Go.Proofs.YtifpjidkfemkfaaDoor.Arg
open Go.ChangeShapes Go.WideShapes Go.ChangeAt Go.RowKit Go.Joins Go.Deep Go.Proofs.YtifpjidkfemkfaaDoor Go.Proofs.YtifpjidkfemkfaaDoorW.PrintWords
theorem globals_size : Tryd.prog.globals.size = 3 := by kernel_rfl
theorem begin_size : decide (4 ≤ (begin Tryd.prog (fun _ _ => 0) default).world.heap.size) = true := by kernel_rfl
set_option maxRecDepth 100000 in
/-- What the walks ask of the library's variables. -/
theorem gw {l : List (String × DataW Unit)} {W : World} (hL : laidMetH Tryd.prog l W) (hsh : W.ShapedOpen Tryd.prog) : GW W where
  size := by
    obtain ⟨o, o₀, h, _⟩ := hsh.2 3 (by rw [globals_size]; decide) (of_decide_eq_true begin_size)
    exact Nat.lt_trans (by decide) (Array.getElem?_eq_some_iff.1 h).1
  maxlen := cell_of_shapedOpen_int (t := 3) (zero := #[.int .i64 0]) hsh (by rw [globals_size]; decide) (by kernel_rfl) rfl (by kernel_rfl) (by kernel_rfl) Tryd.underlying3
/-- The witness's world: the settled one, the variables holding what their initialisers lay. -/
noncomputable def laidWorld (os : Os) : World :=
  let w0 := World.holding Tryd.prog os ⟨#[], #[], []⟩
  let put (h : Array Obj) (g : Nat) (cs : Array Value) : Array Obj := h.modify g fun
    | .cells _ t frozen => .cells cs t frozen
    | o => o
  let h2 := put w0.heap 1 (Lib.firstTab.map fun z => Value.int .u8 z).toArray
  let h3 := put h2 2 ((List.range 16).flatMap fun i => [Value.int .u8 (Lib.accLo i), Value.int .u8 (Lib.accHi i)]).toArray
  { w0 with heap := h3 }
set_option maxRecDepth 100000 in
theorem laid_met (os : Os) (args : Array Value) : laidMet Tryd.prog [("unicode/utf8.acceptRanges", Rows.laid_unicode_utf8_acceptRanges), ("unicode/utf8.first", Rows.laid_unicode_utf8_first)] ((laidWorld os).forCall (fun _ _ => 0) ⟨#[], args, []⟩).memory :=
  laidMet_of_run' 10 (by kernel_rfl) (by kernel_rfl)
end Go.Proofs.YtifpjidkfemkfaaDoor.Arg
