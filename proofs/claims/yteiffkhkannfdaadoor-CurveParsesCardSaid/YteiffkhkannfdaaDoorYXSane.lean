/- The fixed example of layer 19's laws: the points of a line. -/
import Derived.Test.YteiffkhkannfdaaDoorYXVal2
set_option linter.unusedVariables false
set_option linter.unusedSimpArgs false
namespace Go.Proofs.YteiffkhkannfdaaDoor
open Go.RowKit Go.Proofs.YteiffkhkannfdaaDoorW.PrintWords Go.Proofs.YteiffkhkannfdaaDoorW.PrintLast Go.Proofs.YteiffkhkannfdaaDoorW.PrintMore Go.Proofs.YteiffkhkannfdaaDoor.Pure
set_option linter.unusedVariables false
set_option maxHeartbeats 4000000
set_option maxRecDepth 100000
theorem points_calls (b : Nat) (w : World) (h0 : w.heap[b]? = some (.cells #[.int .i64 3, .int .i64 4] 3 (0, 0))) (hr : Kd.C (Kd.int .i64) w (some ⟨b, 0, none⟩) 2 [3, 4]) :
    Calls Tryd.prog 10 #[.int .u8 108, .slice (some ⟨b, 0, none⟩) 2 2, .int .i64 1] w fun e w' => ∃ g, e = .returned (.tuple #[.slice (some ⟨g, 0, none⟩) 2 2, .int .i64 0]) ∧ w'.cell? ⟨g, 2, none⟩ = some (.int .i64 3) ∧ w'.cell? ⟨g, 3, none⟩ = some (.int .i64 4) ∧ Below w.heap.size w w' := by
  have H0 := Aside0.mk h0
  have HR := Aside0.mk hr
  clear h0 hr
  have hv : ∀ W, Kd.C (Kd.int .i64) W (some ⟨b, 0, none⟩) 2 [3, 4] → Calls Tryd.prog 17 #[.int .u8 108, .slice (some ⟨b, 0, none⟩) 2 2] W fun e w' => e = .returned (.bool true) ∧ Below W.heap.size W w' :=
    fun W h => valid_calls 108 (some ⟨b, 0, none⟩) 2 [3, 4] W h (by decide) (by decide)
  go_enter Tryd.func10, Tryd.ntmps10
  go_wp2_with (go_at_call 17; (with_reducible refine (hv _ HR.out).mono ?_); rintro e w1 ⟨rfl, hb⟩; (have c0 : w1.cell? ⟨b, 0, none⟩ = some (.int .i64 3) := (blk_cell (blk_below H0.out hb) 0).trans rfl); (have c1 : w1.cell? ⟨b, 1, none⟩ = some (.int .i64 4) := (blk_cell (blk_below H0.out hb) 1).trans rfl); (have HB := Aside0.mk hb); clear hb)
  go_region
  go_wp2
  go_ret2
  refine ⟨_, rfl, ?_, ?_, ?_⟩
  · exact (blk_cell (blk_new _ _) 2).trans rfl
  · exact (blk_cell (blk_new _ _) 3).trans rfl
  · first | exact HB.out.alloc HB.out.size _ | exact (below_drew HB.out).alloc (below_drew HB.out).size _ | (repeat (first | (with_reducible first | exact HB.out | apply below_alloc | apply pw_below_drewN | apply below_drew1) | exact HB.out))
theorem eq34 (W : World) : (Op.equalIn 10000 36 (.agg #[.int .i64 3, .int .i64 4]) (.agg #[.int .i64 3, .int .i64 4])).run Tryd.prog W = .ok true W := by kernel_rfl
theorem sane_calls (w : World) : Calls Tryd.prog 4 #[] w fun e w' => e = .returned (.bool true) ∧ Below w.heap.size w w' := by
  have hl : Kd.C (Kd.int .i64) (w.alloc (.cells #[.int .i64 3, .int .i64 4] 3)) (some ⟨w.heap.size, 0, none⟩) 2 [3, 4] := by
    have h := World.ownsRow_lit (base := w.heap.size) (e := 3) (size := 1) w #[.int .i64 3, .int .i64 4] 2 (Nat.le_refl _) (by decide) (by rfl)
    have hR : Kd.R (Kd.int .i64) 3 (w.alloc (.cells #[.int .i64 3, .int .i64 4] 3)) w.heap.size (fun _ => True) (.slice (some ⟨w.heap.size, 0, none⟩) 2 2) [3, 4] := Kd.R_of_own h (fun _ _ => trivial)
    exact (Kd.R_reads' hR).2.2
  have hp := points_calls w.heap.size (w.alloc (.cells #[.int .i64 3, .int .i64 4] 3)) (blk_new _ _) hl
  have HP := Aside0.mk hp
  have he := eq34
  clear hl hp
  go_enter Tryd.func4, Tryd.ntmps4
  go_wp2_with (go_at_call 10; (with_reducible refine HP.out.mono ?_); rintro e w1 ⟨g, rfl, c0, c1, hb⟩; (have HB := Aside0.mk (below_then (below_alloc (Below.refl _ w) (.cells #[.int .i64 3, .int .i64 4] 3)) (by simp) hb)); clear hb)
  go_ret
  exact ⟨rfl, HB.out⟩
end Go.Proofs.YteiffkhkannfdaaDoor
