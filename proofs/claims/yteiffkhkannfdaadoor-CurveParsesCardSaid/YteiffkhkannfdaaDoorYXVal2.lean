/- The walk of curve.Valid by hand. -/
import Derived.Test.YteiffkhkannfdaaDoorYXVal
set_option linter.unusedVariables false
set_option linter.unusedSimpArgs false
namespace Go.Proofs.YteiffkhkannfdaaDoor
open Go.RowKit Go.Proofs.YteiffkhkannfdaaDoorW.PrintWords Go.Proofs.YteiffkhkannfdaaDoorW.PrintLast Go.Proofs.YteiffkhkannfdaaDoorW.PrintMore Go.Proofs.YteiffkhkannfdaaDoor.Pure
set_option linter.unusedVariables false
set_option maxHeartbeats 4000000
set_option maxRecDepth 100000
theorem below_boxq (w : World) (o : Obj) (q : Nat) : Below w.heap.size w ((w.alloc o).drewN q) := below_then (below_alloc (Below.refl _ _) o) (by simp) (Drawn0.below (w := w.alloc o) ⟨⟨q, rfl⟩⟩)
theorem cell_after_alloc_drewN (w : World) (v : Value) (q : Nat) : ((w.alloc (.cells #[v] 22)).drewN q).cell? ⟨w.heap.size, 0, none⟩ = some v := (blk_cell (blk_drewN (blk_new w (.cells #[v] 22)) q) 0).trans rfl
theorem lowAsk_calls (b : Nat) (A : Option Addr) (c : Nat) (l : List Int) (w : World) (hb : w.cell? ⟨b, 0, none⟩ = some (.slice A l.length c)) (hr : Kd.C (Kd.int .i64) w A l.length l) (hc : l.length ≤ c) (hn : l.length ≤ 281474976710656) :
    Calls Tryd.prog 28 #[.pointer (some ⟨b, 0, none⟩)] w fun e w' => e = .returned (.bool (l.any lowB)) ∧ ∃ q, w' = w.drewN q := by
  have HR := Aside0.mk hr
  have HC := Aside0.mk hc
  have HN := Aside0.mk hn
  clear hr hc hn
  go_enter Tryd.func28, Tryd.ntmps28
  go_wp2_with (go_at_call 26; (with_reducible refine (low_calls A c l _ HR.out HC.out HN.out).mono ?_); rintro e w' ⟨rfl, ⟨q, rfl⟩⟩)
  go_ret
  exact ⟨rfl, q, rfl⟩
theorem valid_calls (a0 : Int) (A : Option Addr) (c : Nat) (l : List Int) (w : World) (hr : Kd.C (Kd.int .i64) w A l.length l) (hc : l.length ≤ c) (hn : l.length ≤ 281474976710656) :
    Calls Tryd.prog 17 #[.int .u8 a0, .slice A l.length c] w fun e w' => e = .returned (.bool (validF a0 l)) ∧ Below w.heap.size w w' := by
  have hmf : ∀ (fn : Fn) (first cap : Array Value) (w : World), (Instr.makeFunc fn first cap).run Tryd.prog w = .ok (.func fn first cap) w := fun _ _ _ _ => rfl
  have eg : ∀ args w, (callFunc 28 args).run Tryd.prog w = .ok (.enter 28 args) w := enters_of Tryd.func28 (by kernel_rfl) rfl
  have HR := Aside0.mk hr
  have HC := Aside0.mk hc
  have HN := Aside0.mk hn
  clear hr hc hn
  cases hfar : l.any farB with
  | true =>
    have e : validF a0 l = false := by unfold validF; rw [hfar]; rfl
    rw [e]
    clear e
    go_enter Tryd.func17, Tryd.ntmps17
    go_wp2_with (go_at_call 26; (with_reducible refine (far_calls A c l _ (Kd.C_alloc HR.out _) HC.out HN.out).mono ?_); rw [hfar]; rintro e w' ⟨rfl, ⟨q, rfl⟩⟩)
    go_ret
    exact ⟨rfl, below_boxq _ _ _⟩
  | false =>
    have e0 : validF a0 l = if a0 = 108 then ((l.length : Int) == 2) else if a0 = 99 then ((l.length : Int) == 1) && !l.any lowB else if a0 = 101 then ((l.length : Int) == 2) && !l.any lowB else if a0 = 97 then ((l.length : Int) == 4) else decide (a0 = 126) && decide (2 ≤ l.length) && decide (l.length % 2 = 0) && decide (l.length ≤ 40) := by
      unfold validF
      rw [hfar, if_neg Bool.false_ne_true]
      have h (n : Nat) : decide (l.length = n) = ((l.length : Int) == (n : Int)) := by
        by_cases h : l.length = n
        · rw [decide_eq_true h, beq_iff_eq.2 (by omega)]
        · rw [decide_eq_false h, beq_eq_false_iff_ne.2 (by omega)]
      rw [h 2, h 1, h 4]
      rfl
    rw [e0]
    clear e0
    by_cases c108 : a0 = 108
    · rw [if_pos c108]
      subst c108
      go_enter Tryd.func17, Tryd.ntmps17
      go_wp2_with (go_at_call 26; (with_reducible refine (far_calls A c l _ (Kd.C_alloc HR.out _) HC.out HN.out).mono ?_); rw [hfar]; rintro e w' ⟨rfl, ⟨q, rfl⟩⟩)
      go_ret
      exact ⟨rfl, below_boxq _ _ _⟩
    · rw [if_neg c108]
      have n108 : (a0 == 108) = false := beq_eq_false_iff_ne.2 c108
      by_cases c99 : a0 = 99
      · rw [if_pos c99]
        subst c99
        cases hk : ((l.length : Int) == 1) with
        | false =>
          go_enter Tryd.func17, Tryd.ntmps17
          go_wp2_with (go_at_call 26; (with_reducible refine (far_calls A c l _ (Kd.C_alloc HR.out _) HC.out HN.out).mono ?_); rw [hfar]; rintro e w' ⟨rfl, ⟨q, rfl⟩⟩)
          go_ret
          exact ⟨rfl, below_boxq _ _ _⟩
        | true =>
          rw [Bool.true_and]
          go_enter Tryd.func17, Tryd.ntmps17
          go_wp2_with (first | (go_at_call 26; (with_reducible refine (far_calls A c l _ (Kd.C_alloc HR.out _) HC.out HN.out).mono ?_); rw [hfar]; rintro e w' ⟨rfl, ⟨q, rfl⟩⟩) | (go_at_fn 28; (with_reducible refine (lowAsk_calls _ A c l _ (cell_after_alloc_drewN w _ q) (Kd.C_drewN (Kd.C_alloc HR.out _) _) HC.out HN.out).mono ?_); rintro e w' ⟨rfl, ⟨r, rfl⟩⟩))
          go_ret
          exact ⟨rfl, below_boxq _ _ _⟩
      · rw [if_neg c99]
        have n99 : (a0 == 99) = false := beq_eq_false_iff_ne.2 c99
        by_cases c101 : a0 = 101
        · rw [if_pos c101]
          subst c101
          cases hk : ((l.length : Int) == 2) with
          | false =>
            go_enter Tryd.func17, Tryd.ntmps17
            go_wp2_with (go_at_call 26; (with_reducible refine (far_calls A c l _ (Kd.C_alloc HR.out _) HC.out HN.out).mono ?_); rw [hfar]; rintro e w' ⟨rfl, ⟨q, rfl⟩⟩)
            go_ret
            exact ⟨rfl, below_boxq _ _ _⟩
          | true =>
            rw [Bool.true_and]
            go_enter Tryd.func17, Tryd.ntmps17
            go_wp2_with (first | (go_at_call 26; (with_reducible refine (far_calls A c l _ (Kd.C_alloc HR.out _) HC.out HN.out).mono ?_); rw [hfar]; rintro e w' ⟨rfl, ⟨q, rfl⟩⟩) | (go_at_fn 28; (with_reducible refine (lowAsk_calls _ A c l _ (cell_after_alloc_drewN w _ q) (Kd.C_drewN (Kd.C_alloc HR.out _) _) HC.out HN.out).mono ?_); rintro e w' ⟨rfl, ⟨r, rfl⟩⟩))
            go_ret
            exact ⟨rfl, below_boxq _ _ _⟩
        · rw [if_neg c101]
          have n101 : (a0 == 101) = false := beq_eq_false_iff_ne.2 c101
          by_cases c97 : a0 = 97
          · rw [if_pos c97]
            subst c97
            go_enter Tryd.func17, Tryd.ntmps17
            go_wp2_with (go_at_call 26; (with_reducible refine (far_calls A c l _ (Kd.C_alloc HR.out _) HC.out HN.out).mono ?_); rw [hfar]; rintro e w' ⟨rfl, ⟨q, rfl⟩⟩)
            go_ret
            exact ⟨rfl, below_boxq _ _ _⟩
          · rw [if_neg c97]
            have n97 : (a0 == 97) = false := beq_eq_false_iff_ne.2 c97
            by_cases c126 : a0 = 126
            · subst c126
              by_cases t2 : 2 ≤ l.length
              · have t2' : decide ((l.length : Int) ≥ 2) = true := decide_eq_true (by omega)
                have t2'' : decide (2 ≤ (l.length : Int)) = true := decide_eq_true (by omega)
                by_cases tm : l.length % 2 = 0
                · have tm' : ((l.length : Int) % 2 = 0) = True := eq_true (by omega)
                  have e : (decide ((126 : Int) = 126) && decide (2 ≤ l.length) && decide (l.length % 2 = 0) && decide (l.length ≤ 40)) = decide ((l.length : Int) ≤ 40) := by rw [decide_eq_true t2, decide_eq_true tm]; simp only [decide_true, Bool.true_and]; exact decide_eq_decide.2 (by omega)
                  rw [e]
                  clear e t2 tm
                  go_enter Tryd.func17, Tryd.ntmps17
                  go_wp2_with (go_at_call 26; (with_reducible refine (far_calls A c l _ (Kd.C_alloc HR.out _) HC.out HN.out).mono ?_); rw [hfar]; rintro e w' ⟨rfl, ⟨q, rfl⟩⟩)
                  go_ret
                  refine ⟨congrArg (fun b => Ending.returned (.bool b)) ?_, below_boxq _ _ _⟩
                  rw [beq_iff_eq.2 (of_eq_true tm')]
                  rfl
                · have tm' : ((l.length : Int) % 2 = 0) = False := eq_false (by omega)
                  have e : (decide ((126 : Int) = 126) && decide (2 ≤ l.length) && decide (l.length % 2 = 0) && decide (l.length ≤ 40)) = false := by rw [decide_eq_false tm]; simp
                  rw [e]
                  clear e t2 tm
                  go_enter Tryd.func17, Tryd.ntmps17
                  go_wp2_with (go_at_call 26; (with_reducible refine (far_calls A c l _ (Kd.C_alloc HR.out _) HC.out HN.out).mono ?_); rw [hfar]; rintro e w' ⟨rfl, ⟨q, rfl⟩⟩)
                  go_ret
                  refine ⟨congrArg (fun b => Ending.returned (.bool b)) ?_, below_boxq _ _ _⟩
                  rfl
              · have t2' : decide ((l.length : Int) ≥ 2) = false := decide_eq_false (by omega)
                have t2'' : decide (2 ≤ (l.length : Int)) = false := decide_eq_false (by omega)
                have e : (decide ((126 : Int) = 126) && decide (2 ≤ l.length) && decide (l.length % 2 = 0) && decide (l.length ≤ 40)) = false := by rw [decide_eq_false t2]; simp
                rw [e]
                clear e t2
                go_enter Tryd.func17, Tryd.ntmps17
                go_wp2_with (go_at_call 26; (with_reducible refine (far_calls A c l _ (Kd.C_alloc HR.out _) HC.out HN.out).mono ?_); rw [hfar]; rintro e w' ⟨rfl, ⟨q, rfl⟩⟩)
                go_ret
                exact ⟨rfl, below_boxq _ _ _⟩
            · have n126 : (a0 == 126) = false := beq_eq_false_iff_ne.2 c126
              have e : (decide (a0 = 126) && decide (2 ≤ l.length) && decide (l.length % 2 = 0) && decide (l.length ≤ 40)) = false := by rw [decide_eq_false c126]; simp
              rw [e]
              clear e
              go_enter Tryd.func17, Tryd.ntmps17
              go_wp2_with (go_at_call 26; (with_reducible refine (far_calls A c l _ (Kd.C_alloc HR.out _) HC.out HN.out).mono ?_); rw [hfar]; rintro e w' ⟨rfl, ⟨q, rfl⟩⟩)
              go_ret
              exact ⟨rfl, below_boxq _ _ _⟩
end Go.Proofs.YteiffkhkannfdaaDoor
