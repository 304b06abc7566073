/- The walks of functions that the print does not take: strings.ContainsFunc at the question of a name's bytes. -/
import Derived.Test.YtifpjidkfemkfaaDoorYXG
set_option linter.unusedVariables false
set_option linter.unusedSimpArgs false
namespace Go.Proofs.YtifpjidkfemkfaaDoor
open Go.RowKit Go.Proofs.YtifpjidkfemkfaaDoorW.PrintWords Go.Proofs.YtifpjidkfemkfaaDoorW.PrintLast
set_option linter.unusedVariables false
theorem out_gives (r : Nat) (W : World) : Calls Tryd.prog 64 #[.int .i32 (r : Int)] W fun e w' => e = .returned (.bool (outR r)) ∧ ∃ q, w' = W.drewN q := by
  unfold outR
  by_cases h1 : r < 33
  · have c1 : decide ((r : Int) < 33) = true := decide_eq_true (by omega)
    have c2 : decide (r < 33) = true := decide_eq_true (by omega)
    rw [c2]
    go_enter Tryd.func64, Tryd.ntmps64
    go_wp2
    go_ret
    exact ⟨rfl, 0, rfl⟩
  · have c1 : decide ((r : Int) < 33) = false := decide_eq_false (by omega)
    have c2 : decide (r < 33) = false := decide_eq_false (by omega)
    rw [c2]
    have e : decide ((126 : Int) < (r : Int)) = decide (126 < r) := by
      by_cases h2 : 126 < r
      · rw [decide_eq_true h2, decide_eq_true (by omega)]
      · rw [decide_eq_false h2, decide_eq_false (by omega)]
    rw [← e]
    clear c2 e
    go_enter Tryd.func64, Tryd.ntmps64
    go_wp2
    go_ret
    exact ⟨by simp, 0, rfl⟩
theorem containsFunc_out (a0 : ByteArray) (w : World) :
    Calls Tryd.prog 63 #[.string a0, .func (.func 64) #[] #[]] w fun e w' => e = .returned (.bool (a0.data.toList.any outB)) ∧ Below w.heap.size w w' := by
  rw [← idx_out a0]
  refine Tryd.strings_ContainsFunc_runes 64 #[] ?_ outR a0 w ?_
  · exact enters_of Tryd.func64 (by kernel_rfl) rfl
  · intro W x hx hb
    exact out_gives x W
end Go.Proofs.YtifpjidkfemkfaaDoor
