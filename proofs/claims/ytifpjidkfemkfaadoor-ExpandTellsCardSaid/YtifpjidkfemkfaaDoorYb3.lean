-- YtifpjidkfemkfaaDoorXb: written by wip/xprint.py of this repo, which drives the kit's print; not trusted: Lean checks it
import Derived.Test.YtifpjidkfemkfaaDoorYb0
import Derived.Test.YtifpjidkfemkfaaDoorYb2
namespace Go.Proofs.YtifpjidkfemkfaaDoor.Xb
open Go.RowKit Go.Proofs.YtifpjidkfemkfaaDoorW.PrintWords Go.Proofs.YtifpjidkfemkfaaDoorW.PrintLast Go.Proofs.YtifpjidkfemkfaaDoorW.PrintMore
attribute [local go_sem] max2_int min2_int max_two min_two max_three min_three max_four min_four   -- for this text's walks alone
open Go.Proofs.YtifpjidkfemkfaaDoor
set_option linter.unusedVariables false
set_option linter.unusedSimpArgs false

/-! ### frisketref04_name: function 45 -/
mutual
def frisketref04_name.j0 : Nat → ByteArray → Int → Bool → Option (ByteArray × Int)
 | 0, _, _, _ => none
 | k + 1, x0, x1, x34 => if x34 = true then (if 0 ≤ (wrap64 (x1 + 1)) then (if (wrap64 (x1 + 1)) ≤ (wrap64 (x1 + 3)) then (if (wrap64 (x1 + 3)) ≤ (x0.size : Int) then (some ((x0.extract ((wrap64 (x1 + 1)) : Int).toNat ((wrap64 (x1 + 3)) : Int).toNat), wrap64 (x1 + 3))) else (none)) else (none)) else (none)) else (some ((⟨#[]⟩ : ByteArray), (-1)))
def frisketref04_name.j2 : Nat → ByteArray → Int → Int → Option (ByteArray × Int)
 | 0, _, _, _ => none
 | k + 1, x0, x1, x6 => if x6 ≥ (x0.size : Int) then (frisketref04_name.j3 k x0 x1 x6 true) else (if 0 ≤ x6 then (if x6 < (x0.size : Int) then (if (bt x0 x6) = 93 then (if x6 = (wrap64 (x1 + 1)) then (frisketref04_name.j3 k x0 x1 x6 true) else (frisketref04_name.j3 k x0 x1 x6 (decide ((wrap64 ((wrap64 (x6 - x1)) - 1)) > 20)))) else (frisketref04_name.j3 k x0 x1 x6 true)) else (none)) else (none))
def frisketref04_name.j3 : Nat → ByteArray → Int → Int → Bool → Option (ByteArray × Int)
 | 0, _, _, _, _ => none
 | k + 1, x0, x1, x6, x87 => if x87 = true then (some ((⟨#[]⟩ : ByteArray), (-1))) else (if 0 ≤ (wrap64 (x1 + 1)) then (if (wrap64 (x1 + 1)) ≤ x6 then (if x6 ≤ (x0.size : Int) then (some ((x0.extract ((wrap64 (x1 + 1)) : Int).toNat (x6 : Int).toNat), wrap64 (x6 + 1))) else (none)) else (none)) else (none))
def frisketref04_name.l0 : Nat → ByteArray → Int → Int → Option (ByteArray × Int)
 | 0, _, _, _ => none
 | k + 1, x0, x1, x6 => if x6 < (x0.size : Int) then (if 0 ≤ x6 then ((frisketref04_one.f (bt x0 x6)).bind fun t109 => (if t109 = true then (if (bt x0 x6) = 93 then (frisketref04_name.j2 k x0 x1 x6) else (frisketref04_name.l0 k x0 x1 (wrap64 (x6 + 1)))) else (frisketref04_name.j2 k x0 x1 x6))) else (none)) else (frisketref04_name.j2 k x0 x1 x6)
def frisketref04_name.j4 : Nat → ByteArray → Int → Bool → Option (ByteArray × Int)
 | 0, _, _, _ => none
 | k + 1, x0, x1, x95 => if x95 = true then (some ((⟨#[]⟩ : ByteArray), (-1))) else (if 0 ≤ x1 then (if x1 < (x0.size : Int) then ((frisketref04_one.f (bt x0 x1)).bind fun t110 => (if t110 = true then (if x1 ≤ (wrap64 (x1 + 1)) then (if (wrap64 (x1 + 1)) ≤ (x0.size : Int) then (some ((x0.extract (x1 : Int).toNat ((wrap64 (x1 + 1)) : Int).toNat), wrap64 (x1 + 1))) else (none)) else (none)) else (some ((⟨#[]⟩ : ByteArray), (-1))))) else (none)) else (none))
end
def frisketref04_name.f (k : Nat) (a0 : ByteArray) (a1 : Int) : Option (ByteArray × Int) := if a1 ≥ (a0.size : Int) then (some ((⟨#[]⟩ : ByteArray), (-1))) else (if 0 ≤ a1 then (if a1 < (a0.size : Int) then (if (bt a0 a1) = 40 then (if (wrap64 (a1 + 2)) < (a0.size : Int) then (if 0 ≤ (wrap64 (a1 + 1)) then (if (wrap64 (a1 + 1)) < (a0.size : Int) then ((frisketref04_one.f (bt a0 (wrap64 (a1 + 1)))).bind fun t107 => (if t107 = true then (if 0 ≤ (wrap64 (a1 + 2)) then ((frisketref04_one.f (bt a0 (wrap64 (a1 + 2)))).bind fun t108 => (frisketref04_name.j0 k a0 a1 t108)) else (none)) else (frisketref04_name.j0 k a0 a1 false))) else (none)) else (none)) else (frisketref04_name.j0 k a0 a1 false)) else (if (bt a0 a1) = 91 then (frisketref04_name.l0 k a0 a1 (wrap64 (a1 + 1))) else (if (bt a0 a1) = 43 then (frisketref04_name.j4 k a0 a1 ((bt a0 a1) == 43)) else (frisketref04_name.j4 k a0 a1 ((bt a0 a1) == 45))))) else (none)) else (none))
theorem frisketref04_name.mono_l : ∀ k, (∀ y0 y1 y2, LeO (frisketref04_name.j0 k y0 y1 y2) (frisketref04_name.j0 (k + 1) y0 y1 y2)) ∧ (∀ y0 y1 y2, LeO (frisketref04_name.j2 k y0 y1 y2) (frisketref04_name.j2 (k + 1) y0 y1 y2)) ∧ (∀ y0 y1 y2 y3, LeO (frisketref04_name.j3 k y0 y1 y2 y3) (frisketref04_name.j3 (k + 1) y0 y1 y2 y3)) ∧ (∀ y0 y1 y2, LeO (frisketref04_name.l0 k y0 y1 y2) (frisketref04_name.l0 (k + 1) y0 y1 y2)) ∧ (∀ y0 y1 y2, LeO (frisketref04_name.j4 k y0 y1 y2) (frisketref04_name.j4 (k + 1) y0 y1 y2))
 | 0 => ⟨fun _ _ _ r h => by simp [frisketref04_name.j0] at h, fun _ _ _ r h => by simp [frisketref04_name.j2] at h, fun _ _ _ _ r h => by simp [frisketref04_name.j3] at h, fun _ _ _ r h => by simp [frisketref04_name.l0] at h, fun _ _ _ r h => by simp [frisketref04_name.j4] at h⟩
 | k + 1 => by
  obtain ⟨ih0, ih1, ih2, ih3, ih4⟩ := frisketref04_name.mono_l k
  refine ⟨?_, ?_, ?_, ?_, ?_⟩
  ·intro y0 y1 y2
   unfold frisketref04_name.j0
   repeat' first
   | (with_reducible exact ih0 _ _ _)
   | (with_reducible exact ih1 _ _ _)
   | (with_reducible exact ih2 _ _ _ _)
   | (with_reducible exact ih3 _ _ _)
   | (with_reducible exact ih4 _ _ _)
   | (with_reducible exact LeO.refl _)
   | (with_reducible exact LeO.none _)
   | (with_reducible refine LeO.ite ?_ ?_)
   | (with_reducible refine LeO.bind ?_ (fun _ => ?_))
   | exact ih0 _ _ _
   | exact ih1 _ _ _
   | exact ih2 _ _ _ _
   | exact ih3 _ _ _
   | exact ih4 _ _ _
   | exact LeO.none _
   | refine LeO.ite ?_ ?_
   | refine LeO.bind ?_ (fun _ => ?_)
  ·intro y0 y1 y2
   unfold frisketref04_name.j2
   repeat' first
   | (with_reducible exact ih0 _ _ _)
   | (with_reducible exact ih1 _ _ _)
   | (with_reducible exact ih2 _ _ _ _)
   | (with_reducible exact ih3 _ _ _)
   | (with_reducible exact ih4 _ _ _)
   | (with_reducible exact LeO.refl _)
   | (with_reducible exact LeO.none _)
   | (with_reducible refine LeO.ite ?_ ?_)
   | (with_reducible refine LeO.bind ?_ (fun _ => ?_))
   | exact ih0 _ _ _
   | exact ih1 _ _ _
   | exact ih2 _ _ _ _
   | exact ih3 _ _ _
   | exact ih4 _ _ _
   | exact LeO.none _
   | refine LeO.ite ?_ ?_
   | refine LeO.bind ?_ (fun _ => ?_)
  ·intro y0 y1 y2 y3
   unfold frisketref04_name.j3
   repeat' first
   | (with_reducible exact ih0 _ _ _)
   | (with_reducible exact ih1 _ _ _)
   | (with_reducible exact ih2 _ _ _ _)
   | (with_reducible exact ih3 _ _ _)
   | (with_reducible exact ih4 _ _ _)
   | (with_reducible exact LeO.refl _)
   | (with_reducible exact LeO.none _)
   | (with_reducible refine LeO.ite ?_ ?_)
   | (with_reducible refine LeO.bind ?_ (fun _ => ?_))
   | exact ih0 _ _ _
   | exact ih1 _ _ _
   | exact ih2 _ _ _ _
   | exact ih3 _ _ _
   | exact ih4 _ _ _
   | exact LeO.none _
   | refine LeO.ite ?_ ?_
   | refine LeO.bind ?_ (fun _ => ?_)
  ·intro y0 y1 y2
   unfold frisketref04_name.l0
   repeat' first
   | (with_reducible exact ih0 _ _ _)
   | (with_reducible exact ih1 _ _ _)
   | (with_reducible exact ih2 _ _ _ _)
   | (with_reducible exact ih3 _ _ _)
   | (with_reducible exact ih4 _ _ _)
   | (with_reducible exact LeO.refl _)
   | (with_reducible exact LeO.none _)
   | (with_reducible refine LeO.ite ?_ ?_)
   | (with_reducible refine LeO.bind ?_ (fun _ => ?_))
   | exact ih0 _ _ _
   | exact ih1 _ _ _
   | exact ih2 _ _ _ _
   | exact ih3 _ _ _
   | exact ih4 _ _ _
   | exact LeO.none _
   | refine LeO.ite ?_ ?_
   | refine LeO.bind ?_ (fun _ => ?_)
  ·intro y0 y1 y2
   unfold frisketref04_name.j4
   repeat' first
   | (with_reducible exact ih0 _ _ _)
   | (with_reducible exact ih1 _ _ _)
   | (with_reducible exact ih2 _ _ _ _)
   | (with_reducible exact ih3 _ _ _)
   | (with_reducible exact ih4 _ _ _)
   | (with_reducible exact LeO.refl _)
   | (with_reducible exact LeO.none _)
   | (with_reducible refine LeO.ite ?_ ?_)
   | (with_reducible refine LeO.bind ?_ (fun _ => ?_))
   | exact ih0 _ _ _
   | exact ih1 _ _ _
   | exact ih2 _ _ _ _
   | exact ih3 _ _ _
   | exact ih4 _ _ _
   | exact LeO.none _
   | refine LeO.ite ?_ ?_
   | refine LeO.bind ?_ (fun _ => ?_)
theorem frisketref04_name.mono : ∀ a0 a1 k, LeO (frisketref04_name.f k a0 a1) (frisketref04_name.f (k + 1) a0 a1) := by
 intro a0 a1 k
 obtain ⟨ih0, ih1, ih2, ih3, ih4⟩ := frisketref04_name.mono_l k
 unfold frisketref04_name.f
 repeat' first
   | (with_reducible exact ih0 _ _ _)
   | (with_reducible exact ih1 _ _ _)
   | (with_reducible exact ih2 _ _ _ _)
   | (with_reducible exact ih3 _ _ _)
   | (with_reducible exact ih4 _ _ _)
   | (with_reducible exact LeO.refl _)
   | (with_reducible exact LeO.none _)
   | (with_reducible refine LeO.ite ?_ ?_)
   | (with_reducible refine LeO.bind ?_ (fun _ => ?_))
   | exact ih0 _ _ _
   | exact ih1 _ _ _
   | exact ih2 _ _ _ _
   | exact ih3 _ _ _
   | exact ih4 _ _ _
   | exact LeO.none _
   | refine LeO.ite ?_ ?_
   | refine LeO.bind ?_ (fun _ => ?_)
set_option maxHeartbeats 8000000 in
set_option maxRecDepth 100000 in
theorem frisketref04_name.calls (k : Nat) (a0 : ByteArray) (a1 : Int) (r1 : ByteArray) (r2 : Int) (w : World) (h : frisketref04_name.f k a0 a1 = some (r1, r2)) :
  Calls Tryd.prog 45 #[.string a0, .int .i64 a1] w fun e w' => e = .returned (.tuple #[.string r1, .int .i64 r2]) ∧ Drawn0 w w' := by
 have H : (if a1 ≥ (a0.size : Int) then (some ((⟨#[]⟩ : ByteArray), (-1))) else (if 0 ≤ a1 then (if a1 < (a0.size : Int) then (if (bt a0 a1) = 40 then (if (wrap64 (a1 + 2)) < (a0.size : Int) then (if 0 ≤ (wrap64 (a1 + 1)) then (if (wrap64 (a1 + 1)) < (a0.size : Int) then ((frisketref04_one.f (bt a0 (wrap64 (a1 + 1)))).bind fun t107 => (if t107 = true then (if 0 ≤ (wrap64 (a1 + 2)) then ((frisketref04_one.f (bt a0 (wrap64 (a1 + 2)))).bind fun t108 => (frisketref04_name.j0 k a0 a1 t108)) else (none)) else (frisketref04_name.j0 k a0 a1 false))) else (none)) else (none)) else (frisketref04_name.j0 k a0 a1 false)) else (if (bt a0 a1) = 91 then (frisketref04_name.l0 k a0 a1 (wrap64 (a1 + 1))) else (if (bt a0 a1) = 43 then (frisketref04_name.j4 k a0 a1 ((bt a0 a1) == 43)) else (frisketref04_name.j4 k a0 a1 ((bt a0 a1) == 45))))) else (none)) else (none))) = some (r1, r2) := h
 clear h
 by_cases c3 : a1 ≥ (a0.size : Int)
 ·rw [if_pos c3] at H
  have c3b0 : decide ((a0.size : Int) ≤ a1) = true := decide_eq_true c3
  clear c3
  simp only [Option.some.injEq, Prod.mk.injEq] at H
  obtain ⟨rfl, rfl⟩ := H
  go_enter Tryd.func45, Tryd.ntmps45
  go_wp2
  go_ret2
  exact ⟨by first | rfl | (simp; done) | (simp [*]; done), by repeat (first | exact Drawn0.refl _ | apply Drawn0.step)⟩
 ·rw [if_neg c3] at H
  have c3b0 : decide ((a0.size : Int) ≤ a1) = false := decide_eq_false c3
  clear c3
  by_cases c4 : 0 ≤ a1
  ·rw [if_pos c4] at H
   have c4b0 : decide (0 ≤ a1) = true := decide_eq_true c4
   clear c4
   by_cases c5 : a1 < (a0.size : Int)
   ·rw [if_pos c5] at H
    have c5b0 : decide (a1 < (a0.size : Int)) = true := decide_eq_true c5
    clear c5
    by_cases c7 : (bt a0 a1) = 40
    ·rw [if_pos c7] at H
     have c7b0 : ((bt a0 a1) == 40) = true := beq_iff_eq.mpr c7
     have c7b1 : ((bt a0 a1) != 40) = false := bne_eq_false_iff_eq.mpr c7
     clear c7
     have HC8 := Aside0.mk H
     clear H
     have p6 : 0 ≤ (a1 : Int) := of_decide_eq_true (by first | (with_reducible assumption) | assumption)
     have q6 : a1 < (a0.size : Int) := of_decide_eq_true (by first | (with_reducible assumption) | assumption)
     have hx6 := bt_at a0 a1
     replace p6 := eq_true p6
     replace q6 := eq_true q6
     go_enter Tryd.func45, Tryd.ntmps45
     go_upto_region 5 with (fail)
     go_cut [34] (fun v34 wc => ∃ (kq : Nat) (x34_7 : Bool), v34 = .bool x34_7 ∧ Aside0 (frisketref04_name.j0 kq a0 a1 x34_7 = some (r1, r2)) ∧ Aside0 (kq ≤ k) ∧ Drawn0 w wc)
     case first =>
      have H := HC8.out
      clear HC8
      by_cases c9 : (wrap64 (a1 + 2)) < (a0.size : Int)
      ·rw [if_pos c9] at H
       have c9b0 : decide ((wrap64 (a1 + 2)) < (a0.size : Int)) = true := decide_eq_true c9
       clear c9
       (first | rw [c9b0] | (simp only [i64_w, i32_w]; rw [c9b0]) | skip)
       obtain ⟨ji10, hji10⟩ : ∃ j_ : Int, (wrap64 (a1 + 1)) = j_ := ⟨_, rfl⟩
       replace H : (if 0 ≤ (ji10) then (if (ji10) < (a0.size : Int) then ((frisketref04_one.f (bt a0 (ji10))).bind fun t107 => (if t107 = true then (if 0 ≤ (wrap64 (a1 + 2)) then ((frisketref04_one.f (bt a0 (wrap64 (a1 + 2)))).bind fun t108 => (frisketref04_name.j0 k a0 a1 t108)) else (none)) else (frisketref04_name.j0 k a0 a1 false))) else (none)) else (none)) = some (r1, r2) := by first | (rw [hji10] at H; exact H) | (simp only [hji10] at H ⊢; exact H)
       have hji10w : (IntKind.i64.wrap (a1 + 1)) = ji10 := (i64_w _).trans hji10
       by_cases c11 : 0 ≤ (ji10)
       ·rw [if_pos c11] at H
        have c11b0 : decide (0 ≤ (ji10)) = true := decide_eq_true c11
        clear c11
        by_cases c12 : (ji10) < (a0.size : Int)
        ·rw [if_pos c12] at H
         have c12b0 : decide ((ji10) < (a0.size : Int)) = true := decide_eq_true c12
         clear c12
         replace H := Option.bind_eq_some_iff.mp H
         obtain ⟨t107, A140, H⟩ := H
         replace H : (if t107 = true then (if 0 ≤ (wrap64 (a1 + 2)) then ((frisketref04_one.f (bt a0 (wrap64 (a1 + 2)))).bind fun t108 => (frisketref04_name.j0 k a0 a1 t108)) else (none)) else (frisketref04_name.j0 k a0 a1 false)) = some (r1, r2) := H
         have A14 := Aside0.mk A140
         clear A140
         by_cases c15 : t107 = true
         ·subst c15
          have H1 : (if 0 ≤ (wrap64 (a1 + 2)) then ((frisketref04_one.f (bt a0 (wrap64 (a1 + 2)))).bind fun t108 => (frisketref04_name.j0 k a0 a1 t108)) else (none)) = some (r1, r2) := by rw [if_pos rfl] at H; exact H
          clear H
          have H := H1
          clear H1
          obtain ⟨ji16, hji16⟩ : ∃ j_ : Int, (wrap64 (a1 + 2)) = j_ := ⟨_, rfl⟩
          replace H : (if 0 ≤ (ji16) then ((frisketref04_one.f (bt a0 (ji16))).bind fun t108 => (frisketref04_name.j0 k a0 a1 t108)) else (none)) = some (r1, r2) := by first | (rw [hji16] at H; exact H) | (simp only [hji16] at H ⊢; exact H)
          (try rw [hji16] at c9b0)
          (try rw [hji16] at A14)
          have hji16w : (IntKind.i64.wrap (a1 + 2)) = ji16 := (i64_w _).trans hji16
          by_cases c17 : 0 ≤ (ji16)
          ·rw [if_pos c17] at H
           have c17b0 : decide (0 ≤ (ji16)) = true := decide_eq_true c17
           clear c17
           replace H := Option.bind_eq_some_iff.mp H
           obtain ⟨t108, A190, H⟩ := H
           replace H : (frisketref04_name.j0 k a0 a1 t108) = some (r1, r2) := H
           have A19 := Aside0.mk A190
           clear A190
           have H' := Aside0.mk H
           clear H
           have p13 : 0 ≤ ((ji10) : Int) := of_decide_eq_true (by first | (with_reducible assumption) | assumption)
           have q13 : (ji10) < (a0.size : Int) := of_decide_eq_true (by first | (with_reducible assumption) | assumption)
           have hx13 := bt_at a0 (ji10)
           replace p13 := eq_true p13
           replace q13 := eq_true q13
           go_wp2_with (first | (go_at_call 56; (with_reducible refine (frisketref04_one.calls (bt a0 (ji10)) true _ A14.out).mono ?_); rintro e w' ⟨rfl, ⟨nd, rfl⟩⟩; have p18 : 0 ≤ ((ji16) : Int) := of_decide_eq_true (by first | (with_reducible assumption) | assumption); have q18 : (ji16) < (a0.size : Int) := of_decide_eq_true (by first | (with_reducible assumption) | assumption); have hx18 := bt_at a0 (ji16); replace p18 := eq_true p18; replace q18 := eq_true q18) | (go_at_call 56; (with_reducible refine (frisketref04_one.calls (bt a0 (ji16)) t108 _ A19.out).mono ?_); rintro e w' ⟨rfl, ⟨nd, rfl⟩⟩))
           go_meet
           case rel => exact ⟨_, (t108), (by first | rfl | (simp; done) | (simp [*]; done)), H', ⟨by first | omega | exact Nat.le_refl _⟩, by repeat (first | exact Drawn0.refl _ | apply Drawn0.step)⟩
          ·rw [if_neg c17] at H
           exact absurd H (by simp)
         ·replace c15 := Bool.eq_false_iff.mpr c15
          subst c15
          have H1 : (frisketref04_name.j0 k a0 a1 false) = some (r1, r2) := by rw [if_neg (show ¬ (false = true) by decide)] at H; exact H
          clear H
          have H := H1
          clear H1
          have H' := Aside0.mk H
          clear H
          have p13 : 0 ≤ ((ji10) : Int) := of_decide_eq_true (by first | (with_reducible assumption) | assumption)
          have q13 : (ji10) < (a0.size : Int) := of_decide_eq_true (by first | (with_reducible assumption) | assumption)
          have hx13 := bt_at a0 (ji10)
          replace p13 := eq_true p13
          replace q13 := eq_true q13
          go_wp2_with (first | (go_at_call 56; (with_reducible refine (frisketref04_one.calls (bt a0 (ji10)) false _ A14.out).mono ?_); rintro e w' ⟨rfl, ⟨nd, rfl⟩⟩))
          go_meet
          case rel => exact ⟨_, (false), (by first | rfl | (simp; done) | (simp [*]; done)), H', ⟨by first | omega | exact Nat.le_refl _⟩, by repeat (first | exact Drawn0.refl _ | apply Drawn0.step)⟩
        ·rw [if_neg c12] at H
         exact absurd H (by simp)
       ·rw [if_neg c11] at H
        exact absurd H (by simp)
      ·rw [if_neg c9] at H
       have c9b0 : decide ((wrap64 (a1 + 2)) < (a0.size : Int)) = false := decide_eq_false c9
       clear c9
       (first | rw [c9b0] | (simp only [i64_w, i32_w]; rw [c9b0]) | skip)
       have H' := Aside0.mk H
       clear H
       go_wp2
       go_meet
       case rel => exact ⟨_, (false), (by first | rfl | (simp; done) | (simp [*]; done)), H', ⟨by first | omega | exact Nat.le_refl _⟩, by repeat (first | exact Drawn0.refl _ | apply Drawn0.step)⟩
     case rest =>
      clear HC8
      try clear c1
      try clear p1
      try clear q1
      try clear hx1
      try clear p2
      try clear c3
      try clear c3b0
      try clear c4
      try clear c4b0
      try clear c5
      try clear c5b0
      try clear p6
      try clear q6
      try clear hx6
      try clear c7
      try clear c7b0
      try clear c7b1
      try clear c9
      try clear c9b0
      try clear c11
      try clear c11b0
      try clear c12
      try clear c12b0
      try clear p13
      try clear q13
      try clear hx13
      try clear c15
      try clear c17
      try clear c17b0
      try clear p18
      try clear q18
      try clear hx18
      try clear p13
      try clear p18
      try clear p6
      try clear q13
      try clear q18
      try clear q6
      obtain ⟨kq, x34_7, rfl, HA, HJ7, ⟨mc7, rfl⟩⟩ := hcut
      cases kq with
      | zero => exact absurd HA.out (by simp [frisketref04_name.j0])
      | succ kj7 =>
       have H := HA.out
       clear HA
       simp only [frisketref04_name.j0] at H
       by_cases c20 : x34_7 = true
       ·subst c20
        have H1 : (if 0 ≤ (wrap64 (a1 + 1)) then (if (wrap64 (a1 + 1)) ≤ (wrap64 (a1 + 3)) then (if (wrap64 (a1 + 3)) ≤ (a0.size : Int) then (some ((a0.extract ((wrap64 (a1 + 1)) : Int).toNat ((wrap64 (a1 + 3)) : Int).toNat), wrap64 (a1 + 3))) else (none)) else (none)) else (none)) = some (r1, r2) := by rw [if_pos rfl] at H; exact H
        clear H
        have H := H1
        clear H1
        obtain ⟨ji21, hji21⟩ : ∃ j_ : Int, (wrap64 (a1 + 1)) = j_ := ⟨_, rfl⟩
        replace H : (if 0 ≤ (ji21) then (if (ji21) ≤ (wrap64 (a1 + 3)) then (if (wrap64 (a1 + 3)) ≤ (a0.size : Int) then (some ((a0.extract ((ji21) : Int).toNat ((wrap64 (a1 + 3)) : Int).toNat), wrap64 (a1 + 3))) else (none)) else (none)) else (none)) = some (r1, r2) := by first | (rw [hji21] at H; exact H) | (simp only [hji21] at H ⊢; exact H)
        have hji21w : (IntKind.i64.wrap (a1 + 1)) = ji21 := (i64_w _).trans hji21
        by_cases c22 : 0 ≤ (ji21)
        ·rw [if_pos c22] at H
         have c22b0 := eq_true c22
         have c22b1 : decide (0 ≤ (ji21)) = true := decide_eq_true c22
         clear c22
         by_cases c23 : (ji21) ≤ (wrap64 (a1 + 3))
         ·rw [if_pos c23] at H
          have c23b0 := eq_true c23
          have c23b1 : decide ((ji21) ≤ (wrap64 (a1 + 3))) = true := decide_eq_true c23
          by_cases c24 : (wrap64 (a1 + 3)) ≤ (a0.size : Int)
          ·rw [if_pos c24] at H
           have c24b0 := eq_true c24
           have c24b1 : decide ((wrap64 (a1 + 3)) ≤ (a0.size : Int)) = true := decide_eq_true c24
           obtain ⟨sj25, hsj25⟩ : ∃ j_ : ByteArray, (a0.extract ((ji21) : Int).toNat ((wrap64 (a1 + 3)) : Int).toNat) = j_ := ⟨_, rfl⟩
           replace H : (some (sj25, wrap64 (a1 + 3))) = some (r1, r2) := by first | (rw [hsj25] at H; exact H) | (simp only [hsj25] at H ⊢; exact H) | exact H
           simp only [Option.some.injEq, Prod.mk.injEq] at H
           obtain ⟨rfl, rfl⟩ := H
           go_wp2
           go_ret2
           exact ⟨by first | rfl | (simp; done) | (simp only [← hji21, ← hsj25] <;> (first | rfl | simp)) | (simp [*]; done), by repeat (first | exact Drawn0.refl _ | apply Drawn0.step)⟩
          ·rw [if_neg c24] at H
           exact absurd H (by simp)
         ·rw [if_neg c23] at H
          exact absurd H (by simp)
        ·rw [if_neg c22] at H
         exact absurd H (by simp)
       ·replace c20 := Bool.eq_false_iff.mpr c20
        subst c20
        have H1 : (some ((⟨#[]⟩ : ByteArray), (-1))) = some (r1, r2) := by rw [if_neg (show ¬ (false = true) by decide)] at H; exact H
        clear H
        have H := H1
        clear H1
        simp only [Option.some.injEq, Prod.mk.injEq] at H
        obtain ⟨rfl, rfl⟩ := H
        go_wp2
        go_ret2
        exact ⟨by first | rfl | (simp; done) | (simp [*]; done), by repeat (first | exact Drawn0.refl _ | apply Drawn0.step)⟩
    ·rw [if_neg c7] at H
     have c7b0 : ((bt a0 a1) == 40) = false := beq_eq_false_iff_ne.mpr c7
     have c7b1 : ((bt a0 a1) != 40) = true := bne_iff_ne.mpr c7
     by_cases c26 : (bt a0 a1) = 91
     ·rw [if_pos c26] at H
      have c26b0 : ((bt a0 a1) == 91) = true := beq_iff_eq.mpr c26
      have c26b1 : ((bt a0 a1) != 91) = false := bne_eq_false_iff_eq.mpr c26
      clear c26
      have HC27 := Aside0.mk H
      clear H
      have p6 : 0 ≤ (a1 : Int) := of_decide_eq_true (by first | (with_reducible assumption) | assumption)
      have q6 : a1 < (a0.size : Int) := of_decide_eq_true (by first | (with_reducible assumption) | assumption)
      have hx6 := bt_at a0 a1
      replace p6 := eq_true p6
      replace q6 := eq_true q6
      go_enter Tryd.func45, Tryd.ntmps45
      go_upto_block 1 with (fail)
      go_cut [6] (fun v6 wc => ∃ (kq : Nat) (x6_26 : Int), v6 = .int .i64 x6_26 ∧ Aside0 (frisketref04_name.j2 kq a0 a1 x6_26 = some (r1, r2)) ∧ Aside0 (kq ≤ k) ∧ Drawn0 w wc)
      case first =>
       have H := HC27.out
       clear HC27
       have H' := Aside0.mk H
       clear H
       go_wp2
       go_loopg [6] k (fun kq v6 w' => ∃ (x6_1 : Int), v6 = .int .i64 x6_1 ∧ Aside0 (frisketref04_name.l0 kq a0 a1 x6_1 = some (r1, r2)) ∧ Aside0 (kq ≤ k) ∧ Drawn0 w w')
       case atStart => exact ⟨(wrap64 (a1 + 1)), (by first | rfl | (simp; done) | (simp [*]; done)), H', ⟨Nat.le_refl _⟩, by repeat (first | exact Drawn0.refl _ | apply Drawn0.step)⟩
       case round =>
        clear H'
        try clear c1
        try clear p1
        try clear q1
        try clear hx1
        try clear c2
        try clear p2
        try clear c3
        try clear c3b0
        try clear c4
        try clear c4b0
        try clear c5
        try clear c5b0
        try clear p6
        try clear q6
        try clear hx6
        try clear c7
        try clear c7b0
        try clear c7b1
        try clear c9
        try clear c9b0
        try clear c11
        try clear c11b0
        try clear c12
        try clear c12b0
        try clear p13
        try clear q13
        try clear hx13
        try clear c15
        try clear c17
        try clear c17b0
        try clear p18
        try clear q18
        try clear hx18
        try clear c20
        try clear c22
        try clear c22b0
        try clear c22b1
        try clear c23
        try clear c23b0
        try clear c23b1
        try clear c24
        try clear c24b0
        try clear c24b1
        try clear c26
        try clear c26b0
        try clear c26b1
        try clear p1
        try clear p13
        try clear p18
        try clear p2
        try clear p6
        try clear q1
        try clear q13
        try clear q18
        try clear q6
        obtain ⟨x6_1, rfl, HA, HK1, ⟨m1, rfl⟩⟩ := hrel
        cases gk with
        | zero => exact absurd HA.out (by simp [frisketref04_name.l0])
        | succ k1 =>
         have H := HA.out
         clear HA
         simp only [frisketref04_name.l0] at H
         by_cases c28 : x6_1 < (a0.size : Int)
         ·rw [if_pos c28] at H
          have c28b0 : decide (x6_1 < (a0.size : Int)) = true := decide_eq_true c28
          clear c28
          (first | rw [c28b0] | (simp only [i64_w, i32_w]; rw [c28b0]) | skip)
          by_cases c29 : 0 ≤ x6_1
          ·rw [if_pos c29] at H
           have c29b0 : decide (0 ≤ x6_1) = true := decide_eq_true c29
           clear c29
           replace H := Option.bind_eq_some_iff.mp H
           obtain ⟨t109, A310, H⟩ := H
           replace H : (if t109 = true then (if (bt a0 x6_1) = 93 then (frisketref04_name.j2 k1 a0 a1 x6_1) else (frisketref04_name.l0 k1 a0 a1 (wrap64 (x6_1 + 1)))) else (frisketref04_name.j2 k1 a0 a1 x6_1)) = some (r1, r2) := H
           have A31 := Aside0.mk A310
           clear A310
           by_cases c32 : t109 = true
           ·subst c32
            have H1 : (if (bt a0 x6_1) = 93 then (frisketref04_name.j2 k1 a0 a1 x6_1) else (frisketref04_name.l0 k1 a0 a1 (wrap64 (x6_1 + 1)))) = some (r1, r2) := by rw [if_pos rfl] at H; exact H
            clear H
            have H := H1
            clear H1
            by_cases c34 : (bt a0 x6_1) = 93
            ·rw [if_pos c34] at H
             have c34b0 : ((bt a0 x6_1) == 93) = true := beq_iff_eq.mpr c34
             have c34b1 : ((bt a0 x6_1) != 93) = false := bne_eq_false_iff_eq.mpr c34
             clear c34
             have H' := Aside0.mk H
             clear H
             have p30 : 0 ≤ (x6_1 : Int) := of_decide_eq_true (by first | (with_reducible assumption) | assumption)
             have q30 : x6_1 < (a0.size : Int) := of_decide_eq_true (by first | (with_reducible assumption) | assumption)
             have hx30 := bt_at a0 x6_1
             replace p30 := eq_true p30
             replace q30 := eq_true q30
             go_wp2_with (first | (go_at_call 56; (with_reducible refine (frisketref04_one.calls (bt a0 x6_1) true _ A31.out).mono ?_); rintro e w' ⟨rfl, ⟨nd, rfl⟩⟩; have p33 : 0 ≤ (x6_1 : Int) := of_decide_eq_true (by first | (with_reducible assumption) | assumption); have q33 : x6_1 < (a0.size : Int) := of_decide_eq_true (by first | (with_reducible assumption) | assumption); have hx33 := bt_at a0 x6_1; replace p33 := eq_true p33; replace q33 := eq_true q33))
             go_meet
             case rel => exact ⟨_, (x6_1), (by first | rfl | (simp; done) | (simp [*]; done)), H', ⟨by have := HK1.out; first | omega | exact Nat.le_refl _⟩, by repeat (first | exact Drawn0.refl _ | apply Drawn0.step)⟩
            ·rw [if_neg c34] at H
             have c34b0 : ((bt a0 x6_1) == 93) = false := beq_eq_false_iff_ne.mpr c34
             have c34b1 : ((bt a0 x6_1) != 93) = true := bne_iff_ne.mpr c34
             have H' := Aside0.mk H
             clear H
             have p30 : 0 ≤ (x6_1 : Int) := of_decide_eq_true (by first | (with_reducible assumption) | assumption)
             have q30 : x6_1 < (a0.size : Int) := of_decide_eq_true (by first | (with_reducible assumption) | assumption)
             have hx30 := bt_at a0 x6_1
             replace p30 := eq_true p30
             replace q30 := eq_true q30
             go_wp2_with (first | (go_at_call 56; (with_reducible refine (frisketref04_one.calls (bt a0 x6_1) true _ A31.out).mono ?_); rintro e w' ⟨rfl, ⟨nd, rfl⟩⟩; have p33 : 0 ≤ (x6_1 : Int) := of_decide_eq_true (by first | (with_reducible assumption) | assumption); have q33 : x6_1 < (a0.size : Int) := of_decide_eq_true (by first | (with_reducible assumption) | assumption); have hx33 := bt_at a0 x6_1; replace p33 := eq_true p33; replace q33 := eq_true q33))
             go_roundg k1
             case measure => have := HK1.out; omega
             case rel => exact ⟨(wrap64 (x6_1 + 1)), (by first | rfl | (simp; done) | (simp [*]; done)), H', ⟨by have := HK1.out; omega⟩, by repeat (first | exact Drawn0.refl _ | apply Drawn0.step)⟩
           ·replace c32 := Bool.eq_false_iff.mpr c32
            subst c32
            have H1 : (frisketref04_name.j2 k1 a0 a1 x6_1) = some (r1, r2) := by rw [if_neg (show ¬ (false = true) by decide)] at H; exact H
            clear H
            have H := H1
            clear H1
            have H' := Aside0.mk H
            clear H
            have p30 : 0 ≤ (x6_1 : Int) := of_decide_eq_true (by first | (with_reducible assumption) | assumption)
            have q30 : x6_1 < (a0.size : Int) := of_decide_eq_true (by first | (with_reducible assumption) | assumption)
            have hx30 := bt_at a0 x6_1
            replace p30 := eq_true p30
            replace q30 := eq_true q30
            go_wp2_with (first | (go_at_call 56; (with_reducible refine (frisketref04_one.calls (bt a0 x6_1) false _ A31.out).mono ?_); rintro e w' ⟨rfl, ⟨nd, rfl⟩⟩))
            go_meet
            case rel => exact ⟨_, (x6_1), (by first | rfl | (simp; done) | (simp [*]; done)), H', ⟨by have := HK1.out; first | omega | exact Nat.le_refl _⟩, by repeat (first | exact Drawn0.refl _ | apply Drawn0.step)⟩
          ·rw [if_neg c29] at H
           exact absurd H (by simp)
         ·rw [if_neg c28] at H
          have c28b0 : decide (x6_1 < (a0.size : Int)) = false := decide_eq_false c28
          clear c28
          (first | rw [c28b0] | (simp only [i64_w, i32_w]; rw [c28b0]) | skip)
          have H' := Aside0.mk H
          clear H
          go_wp2
          go_meet
          case rel => exact ⟨_, (x6_1), (by first | rfl | (simp; done) | (simp [*]; done)), H', ⟨by have := HK1.out; first | omega | exact Nat.le_refl _⟩, by repeat (first | exact Drawn0.refl _ | apply Drawn0.step)⟩
      case rest =>
       clear HC27
       try clear c1
       try clear p1
       try clear q1
       try clear hx1
       try clear c2
       try clear p2
       try clear c3
       try clear c3b0
       try clear p3
       try clear q3
       try clear hx3
       try clear c4
       try clear c4b0
       try clear c5
       try clear c5b0
       try clear p6
       try clear q6
       try clear hx6
       try clear c7
       try clear c7b0
       try clear c7b1
       try clear c9
       try clear c9b0
       try clear c11
       try clear c11b0
       try clear c12
       try clear c12b0
       try clear p13
       try clear q13
       try clear hx13
       try clear c15
       try clear c17
       try clear c17b0
       try clear p18
       try clear q18
       try clear hx18
       try clear c20
       try clear c22
       try clear c22b0
       try clear c22b1
       try clear c23
       try clear c23b0
       try clear c23b1
       try clear c24
       try clear c24b0
       try clear c24b1
       try clear c26
       try clear c26b0
       try clear c26b1
       try clear c28
       try clear c28b0
       try clear c29
       try clear c29b0
       try clear p30
       try clear q30
       try clear hx30
       try clear c32
       try clear p33
       try clear q33
       try clear hx33
       try clear c34
       try clear c34b0
       try clear c34b1
       try clear p1
       try clear p13
       try clear p18
       try clear p2
       try clear p30
       try clear p33
       try clear p6
       try clear q1
       try clear q13
       try clear q18
       try clear q30
       try clear q33
       try clear q6
       obtain ⟨kq, x6_26, rfl, HA, HJ26, ⟨mc26, rfl⟩⟩ := hcut
       cases kq with
       | zero => exact absurd HA.out (by simp [frisketref04_name.j2])
       | succ kj26 =>
        have H := HA.out
        clear HA
        simp only [frisketref04_name.j2] at H
        have HC35 := Aside0.mk H
        clear H
        go_upto_region 12 with (fail)
        go_cut [87] (fun v87 wc => ∃ (kq : Nat) (x87_34 : Bool), v87 = .bool x87_34 ∧ Aside0 (frisketref04_name.j3 kq a0 a1 x6_26 x87_34 = some (r1, r2)) ∧ Aside0 (kq ≤ kj26) ∧ Drawn0 w wc)
        case first =>
         have H := HC35.out
         clear HC35
         by_cases c36 : x6_26 ≥ (a0.size : Int)
         ·rw [if_pos c36] at H
          have c36b0 : decide ((a0.size : Int) ≤ x6_26) = true := decide_eq_true c36
          clear c36
          (first | rw [c36b0] | (simp only [i64_w, i32_w]; rw [c36b0]) | skip)
          have H' := Aside0.mk H
          clear H
          go_wp2
          go_meet
          case rel => exact ⟨_, (true), (by first | rfl | (simp; done) | (simp [*]; done)), H', ⟨by have := HJ26.out; first | omega | exact Nat.le_refl _⟩, by repeat (first | exact Drawn0.refl _ | apply Drawn0.step)⟩
         ·rw [if_neg c36] at H
          have c36b0 : decide ((a0.size : Int) ≤ x6_26) = false := decide_eq_false c36
          clear c36
          (first | rw [c36b0] | (simp only [i64_w, i32_w]; rw [c36b0]) | skip)
          by_cases c37 : 0 ≤ x6_26
          ·rw [if_pos c37] at H
           have c37b0 : decide (0 ≤ x6_26) = true := decide_eq_true c37
           clear c37
           by_cases c38 : x6_26 < (a0.size : Int)
           ·rw [if_pos c38] at H
            have c38b0 : decide (x6_26 < (a0.size : Int)) = true := decide_eq_true c38
            clear c38
            by_cases c40 : (bt a0 x6_26) = 93
            ·rw [if_pos c40] at H
             have c40b0 : ((bt a0 x6_26) == 93) = true := beq_iff_eq.mpr c40
             have c40b1 : ((bt a0 x6_26) != 93) = false := bne_eq_false_iff_eq.mpr c40
             clear c40
             by_cases c41 : x6_26 = (wrap64 (a1 + 1))
             ·rw [if_pos c41] at H
              have c41b0 : (x6_26 == (wrap64 (a1 + 1))) = true := beq_iff_eq.mpr c41
              have c41b1 : (x6_26 != (wrap64 (a1 + 1))) = false := bne_eq_false_iff_eq.mpr c41
              clear c41
              have H' := Aside0.mk H
              clear H
              have p39 : 0 ≤ (x6_26 : Int) := of_decide_eq_true (by first | (with_reducible assumption) | assumption)
              have q39 : x6_26 < (a0.size : Int) := of_decide_eq_true (by first | (with_reducible assumption) | assumption)
              have hx39 := bt_at a0 x6_26
              replace p39 := eq_true p39
              replace q39 := eq_true q39
              go_wp2
              go_meet
              case rel => exact ⟨_, (true), (by first | rfl | (simp; done) | (simp [*]; done)), H', ⟨by have := HJ26.out; first | omega | exact Nat.le_refl _⟩, by repeat (first | exact Drawn0.refl _ | apply Drawn0.step)⟩
             ·rw [if_neg c41] at H
              have c41b0 : (x6_26 == (wrap64 (a1 + 1))) = false := beq_eq_false_iff_ne.mpr c41
              have c41b1 : (x6_26 != (wrap64 (a1 + 1))) = true := bne_iff_ne.mpr c41
              have H' := Aside0.mk H
              clear H
              have p39 : 0 ≤ (x6_26 : Int) := of_decide_eq_true (by first | (with_reducible assumption) | assumption)
              have q39 : x6_26 < (a0.size : Int) := of_decide_eq_true (by first | (with_reducible assumption) | assumption)
              have hx39 := bt_at a0 x6_26
              replace p39 := eq_true p39
              replace q39 := eq_true q39
              go_wp2
              go_meet
              case rel => exact ⟨_, (decide ((wrap64 ((wrap64 (x6_26 - a1)) - 1)) > 20)), (by first | rfl | (simp; done) | (simp [*]; done)), H', ⟨by have := HJ26.out; first | omega | exact Nat.le_refl _⟩, by repeat (first | exact Drawn0.refl _ | apply Drawn0.step)⟩
            ·rw [if_neg c40] at H
             have c40b0 : ((bt a0 x6_26) == 93) = false := beq_eq_false_iff_ne.mpr c40
             have c40b1 : ((bt a0 x6_26) != 93) = true := bne_iff_ne.mpr c40
             have H' := Aside0.mk H
             clear H
             have p39 : 0 ≤ (x6_26 : Int) := of_decide_eq_true (by first | (with_reducible assumption) | assumption)
             have q39 : x6_26 < (a0.size : Int) := of_decide_eq_true (by first | (with_reducible assumption) | assumption)
             have hx39 := bt_at a0 x6_26
             replace p39 := eq_true p39
             replace q39 := eq_true q39
             go_wp2
             go_meet
             case rel => exact ⟨_, (true), (by first | rfl | (simp; done) | (simp [*]; done)), H', ⟨by have := HJ26.out; first | omega | exact Nat.le_refl _⟩, by repeat (first | exact Drawn0.refl _ | apply Drawn0.step)⟩
           ·rw [if_neg c38] at H
            exact absurd H (by simp)
          ·rw [if_neg c37] at H
           exact absurd H (by simp)
        case rest =>
         clear HC35
         try clear c1
         try clear p1
         try clear q1
         try clear hx1
         try clear c2
         try clear p2
         try clear c3
         try clear c3b0
         try clear p3
         try clear q3
         try clear hx3
         try clear c4
         try clear c4b0
         try clear c5
         try clear c5b0
         try clear p6
         try clear q6
         try clear hx6
         try clear c7
         try clear c7b0
         try clear c7b1
         try clear c9
         try clear c9b0
         try clear c11
         try clear c11b0
         try clear c12
         try clear c12b0
         try clear p13
         try clear q13
         try clear hx13
         try clear c15
         try clear c17
         try clear c17b0
         try clear p18
         try clear q18
         try clear hx18
         try clear c20
         try clear c22
         try clear c22b0
         try clear c22b1
         try clear c23
         try clear c23b0
         try clear c23b1
         try clear c24
         try clear c24b0
         try clear c24b1
         try clear c26
         try clear c26b0
         try clear c26b1
         try clear c28
         try clear c28b0
         try clear c29
         try clear c29b0
         try clear p30
         try clear q30
         try clear hx30
         try clear c32
         try clear p33
         try clear q33
         try clear hx33
         try clear c34
         try clear c34b0
         try clear c34b1
         try clear c36
         try clear c36b0
         try clear c37
         try clear c37b0
         try clear c38
         try clear c38b0
         try clear p39
         try clear q39
         try clear hx39
         try clear c40
         try clear c40b0
         try clear c40b1
         try clear c41
         try clear c41b0
         try clear c41b1
         try clear p1
         try clear p13
         try clear p18
         try clear p2
         try clear p3
         try clear p30
         try clear p33
         try clear p39
         try clear p6
         try clear q1
         try clear q13
         try clear q18
         try clear q3
         try clear q30
         try clear q33
         try clear q39
         try clear q6
         obtain ⟨kq, x87_34, rfl, HA, HJ34, ⟨mc34, rfl⟩⟩ := hcut
         cases kq with
         | zero => exact absurd HA.out (by simp [frisketref04_name.j3])
         | succ kj34 =>
          have H := HA.out
          clear HA
          simp only [frisketref04_name.j3] at H
          by_cases c42 : x87_34 = true
          ·subst c42
           have H1 : (some ((⟨#[]⟩ : ByteArray), (-1))) = some (r1, r2) := by rw [if_pos rfl] at H; exact H
           clear H
           have H := H1
           clear H1
           simp only [Option.some.injEq, Prod.mk.injEq] at H
           obtain ⟨rfl, rfl⟩ := H
           go_wp2
           go_ret2
           exact ⟨by first | rfl | (simp; done) | (simp [*]; done), by repeat (first | exact Drawn0.refl _ | apply Drawn0.step)⟩
          ·replace c42 := Bool.eq_false_iff.mpr c42
           subst c42
           have H1 : (if 0 ≤ (wrap64 (a1 + 1)) then (if (wrap64 (a1 + 1)) ≤ x6_26 then (if x6_26 ≤ (a0.size : Int) then (some ((a0.extract ((wrap64 (a1 + 1)) : Int).toNat (x6_26 : Int).toNat), wrap64 (x6_26 + 1))) else (none)) else (none)) else (none)) = some (r1, r2) := by rw [if_neg (show ¬ (false = true) by decide)] at H; exact H
           clear H
           have H := H1
           clear H1
           obtain ⟨ji43, hji43⟩ : ∃ j_ : Int, (wrap64 (a1 + 1)) = j_ := ⟨_, rfl⟩
           replace H : (if 0 ≤ (ji43) then (if (ji43) ≤ x6_26 then (if x6_26 ≤ (a0.size : Int) then (some ((a0.extract ((ji43) : Int).toNat (x6_26 : Int).toNat), wrap64 (x6_26 + 1))) else (none)) else (none)) else (none)) = some (r1, r2) := by first | (rw [hji43] at H; exact H) | (simp only [hji43] at H ⊢; exact H)
           have hji43w : (IntKind.i64.wrap (a1 + 1)) = ji43 := (i64_w _).trans hji43
           by_cases c44 : 0 ≤ (ji43)
           ·rw [if_pos c44] at H
            have c44b0 := eq_true c44
            have c44b1 : decide (0 ≤ (ji43)) = true := decide_eq_true c44
            clear c44
            by_cases c45 : (ji43) ≤ x6_26
            ·rw [if_pos c45] at H
             have c45b0 := eq_true c45
             have c45b1 : decide ((ji43) ≤ x6_26) = true := decide_eq_true c45
             clear c45
             by_cases c46 : x6_26 ≤ (a0.size : Int)
             ·rw [if_pos c46] at H
              have c46b0 := eq_true c46
              have c46b1 : decide (x6_26 ≤ (a0.size : Int)) = true := decide_eq_true c46
              clear c46
              obtain ⟨sj47, hsj47⟩ : ∃ j_ : ByteArray, (a0.extract ((ji43) : Int).toNat (x6_26 : Int).toNat) = j_ := ⟨_, rfl⟩
              replace H : (some (sj47, wrap64 (x6_26 + 1))) = some (r1, r2) := by first | (rw [hsj47] at H; exact H) | (simp only [hsj47] at H ⊢; exact H) | exact H
              simp only [Option.some.injEq, Prod.mk.injEq] at H
              obtain ⟨rfl, rfl⟩ := H
              go_wp2
              go_ret2
              exact ⟨by first | rfl | (simp; done) | (simp only [← hji43, ← hsj47] <;> (first | rfl | simp)) | (simp [*]; done), by repeat (first | exact Drawn0.refl _ | apply Drawn0.step)⟩
             ·rw [if_neg c46] at H
              exact absurd H (by simp)
            ·rw [if_neg c45] at H
             exact absurd H (by simp)
           ·rw [if_neg c44] at H
            exact absurd H (by simp)
     ·rw [if_neg c26] at H
      have c26b0 : ((bt a0 a1) == 91) = false := beq_eq_false_iff_ne.mpr c26
      have c26b1 : ((bt a0 a1) != 91) = true := bne_iff_ne.mpr c26
      have HC48 := Aside0.mk H
      clear H
      have p6 : 0 ≤ (a1 : Int) := of_decide_eq_true (by first | (with_reducible assumption) | assumption)
      have q6 : a1 < (a0.size : Int) := of_decide_eq_true (by first | (with_reducible assumption) | assumption)
      have hx6 := bt_at a0 a1
      replace p6 := eq_true p6
      replace q6 := eq_true q6
      go_enter Tryd.func45, Tryd.ntmps45
      go_upto_if 95 with (fail)
      go_cut [95] (fun v95 wc => ∃ (kq : Nat) (x95_47 : Bool), v95 = .bool x95_47 ∧ Aside0 (frisketref04_name.j4 kq a0 a1 x95_47 = some (r1, r2)) ∧ Aside0 (kq ≤ k) ∧ Drawn0 w wc)
      case first =>
       have H := HC48.out
       clear HC48
       by_cases c49 : (bt a0 a1) = 43
       ·rw [if_pos c49] at H
        have c49b0 : ((bt a0 a1) == 43) = true := beq_iff_eq.mpr c49
        have c49b1 : ((bt a0 a1) != 43) = false := bne_eq_false_iff_eq.mpr c49
        clear c49
        (first | rw [c49b0] | (simp only [i64_w, i32_w]; rw [c49b0]) | skip)
        have H' := Aside0.mk H
        clear H
        go_wp2
        go_meet
        case rel => exact ⟨_, (((bt a0 a1) == 43)), (by first | rfl | (simp; done) | (simp [*]; done)), H', ⟨by first | omega | exact Nat.le_refl _⟩, by repeat (first | exact Drawn0.refl _ | apply Drawn0.step)⟩
       ·rw [if_neg c49] at H
        have c49b0 : ((bt a0 a1) == 43) = false := beq_eq_false_iff_ne.mpr c49
        have c49b1 : ((bt a0 a1) != 43) = true := bne_iff_ne.mpr c49
        (first | rw [c49b0] | (simp only [i64_w, i32_w]; rw [c49b0]) | skip)
        have H' := Aside0.mk H
        clear H
        go_wp2
        go_meet
        case rel => exact ⟨_, (((bt a0 a1) == 45)), (by first | rfl | (simp; done) | (simp [*]; done)), H', ⟨by first | omega | exact Nat.le_refl _⟩, by repeat (first | exact Drawn0.refl _ | apply Drawn0.step)⟩
      case rest =>
       clear HC48
       try clear c1
       try clear p1
       try clear q1
       try clear hx1
       try clear c2
       try clear p2
       try clear c3
       try clear c3b0
       try clear p3
       try clear q3
       try clear hx3
       try clear c4
       try clear c4b0
       try clear c5
       try clear c5b0
       try clear p6
       try clear q6
       try clear hx6
       try clear c7
       try clear c7b0
       try clear c7b1
       try clear c9
       try clear c9b0
       try clear c11
       try clear c11b0
       try clear c12
       try clear c12b0
       try clear p13
       try clear q13
       try clear hx13
       try clear c15
       try clear c17
       try clear c17b0
       try clear p18
       try clear q18
       try clear hx18
       try clear c20
       try clear c22
       try clear c22b0
       try clear c22b1
       try clear c23
       try clear c23b0
       try clear c23b1
       try clear c24
       try clear c24b0
       try clear c24b1
       try clear c26
       try clear c26b0
       try clear c26b1
       try clear c28
       try clear c28b0
       try clear c29
       try clear c29b0
       try clear p30
       try clear q30
       try clear hx30
       try clear c32
       try clear p33
       try clear q33
       try clear hx33
       try clear c34
       try clear c34b0
       try clear c34b1
       try clear c36
       try clear c36b0
       try clear c37
       try clear c37b0
       try clear c38
       try clear c38b0
       try clear p39
       try clear q39
       try clear hx39
       try clear c40
       try clear c40b0
       try clear c40b1
       try clear c41
       try clear c41b0
       try clear c41b1
       try clear c42
       try clear c44
       try clear c44b0
       try clear c44b1
       try clear c45
       try clear c45b0
       try clear c45b1
       try clear c46
       try clear c46b0
       try clear c46b1
       try clear c49
       try clear c49b0
       try clear c49b1
       try clear p1
       try clear p13
       try clear p18
       try clear p2
       try clear p3
       try clear p30
       try clear p33
       try clear p39
       try clear p6
       try clear q1
       try clear q13
       try clear q18
       try clear q3
       try clear q30
       try clear q33
       try clear q39
       try clear q6
       obtain ⟨kq, x95_47, rfl, HA, HJ47, ⟨mc47, rfl⟩⟩ := hcut
       cases kq with
       | zero => exact absurd HA.out (by simp [frisketref04_name.j4])
       | succ kj47 =>
        have H := HA.out
        clear HA
        simp only [frisketref04_name.j4] at H
        by_cases c50 : x95_47 = true
        ·subst c50
         have H1 : (some ((⟨#[]⟩ : ByteArray), (-1))) = some (r1, r2) := by rw [if_pos rfl] at H; exact H
         clear H
         have H := H1
         clear H1
         simp only [Option.some.injEq, Prod.mk.injEq] at H
         obtain ⟨rfl, rfl⟩ := H
         go_wp2
         go_ret2
         exact ⟨by first | rfl | (simp; done) | (simp [*]; done), by repeat (first | exact Drawn0.refl _ | apply Drawn0.step)⟩
        ·replace c50 := Bool.eq_false_iff.mpr c50
         subst c50
         have H1 : (if 0 ≤ a1 then (if a1 < (a0.size : Int) then ((frisketref04_one.f (bt a0 a1)).bind fun t110 => (if t110 = true then (if a1 ≤ (wrap64 (a1 + 1)) then (if (wrap64 (a1 + 1)) ≤ (a0.size : Int) then (some ((a0.extract (a1 : Int).toNat ((wrap64 (a1 + 1)) : Int).toNat), wrap64 (a1 + 1))) else (none)) else (none)) else (some ((⟨#[]⟩ : ByteArray), (-1))))) else (none)) else (none)) = some (r1, r2) := by rw [if_neg (show ¬ (false = true) by decide)] at H; exact H
         clear H
         have H := H1
         clear H1
         by_cases c51 : 0 ≤ a1
         ·rw [if_pos c51] at H
          have c51b0 : decide (0 ≤ a1) = true := decide_eq_true c51
          clear c51
          by_cases c52 : a1 < (a0.size : Int)
          ·rw [if_pos c52] at H
           have c52b0 : decide (a1 < (a0.size : Int)) = true := decide_eq_true c52
           clear c52
           replace H := Option.bind_eq_some_iff.mp H
           obtain ⟨t110, A540, H⟩ := H
           replace H : (if t110 = true then (if a1 ≤ (wrap64 (a1 + 1)) then (if (wrap64 (a1 + 1)) ≤ (a0.size : Int) then (some ((a0.extract (a1 : Int).toNat ((wrap64 (a1 + 1)) : Int).toNat), wrap64 (a1 + 1))) else (none)) else (none)) else (some ((⟨#[]⟩ : ByteArray), (-1)))) = some (r1, r2) := H
           have A54 := Aside0.mk A540
           clear A540
           by_cases c55 : t110 = true
           ·subst c55
            have H1 : (if a1 ≤ (wrap64 (a1 + 1)) then (if (wrap64 (a1 + 1)) ≤ (a0.size : Int) then (some ((a0.extract (a1 : Int).toNat ((wrap64 (a1 + 1)) : Int).toNat), wrap64 (a1 + 1))) else (none)) else (none)) = some (r1, r2) := by rw [if_pos rfl] at H; exact H
            clear H
            have H := H1
            clear H1
            have c56b0 := eq_true (of_decide_eq_true (by first | (with_reducible assumption) | assumption) : 0 ≤ a1)
            by_cases c57 : a1 ≤ (wrap64 (a1 + 1))
            ·rw [if_pos c57] at H
             have c57b0 := eq_true c57
             have c57b1 : decide (a1 ≤ (wrap64 (a1 + 1))) = true := decide_eq_true c57
             by_cases c58 : (wrap64 (a1 + 1)) ≤ (a0.size : Int)
             ·rw [if_pos c58] at H
              have c58b0 := eq_true c58
              have c58b1 : decide ((wrap64 (a1 + 1)) ≤ (a0.size : Int)) = true := decide_eq_true c58
              obtain ⟨sj59, hsj59⟩ : ∃ j_ : ByteArray, (a0.extract (a1 : Int).toNat ((wrap64 (a1 + 1)) : Int).toNat) = j_ := ⟨_, rfl⟩
              replace H : (some (sj59, wrap64 (a1 + 1))) = some (r1, r2) := by first | (rw [hsj59] at H; exact H) | (simp only [hsj59] at H ⊢; exact H) | exact H
              (try rw [hsj59] at A54)
              simp only [Option.some.injEq, Prod.mk.injEq] at H
              obtain ⟨rfl, rfl⟩ := H
              have p53 : 0 ≤ (a1 : Int) := of_decide_eq_true (by first | (with_reducible assumption) | assumption)
              have q53 : a1 < (a0.size : Int) := of_decide_eq_true (by first | (with_reducible assumption) | assumption)
              have hx53 := bt_at a0 a1
              replace p53 := eq_true p53
              replace q53 := eq_true q53
              go_wp2_with (first | ((with_reducible refine gate_callee (f := 56) rfl ?_); refine goesL_ (some 101) rfl rfl Tryd.func56 (by kernel_rfl) rfl #[.int .u8 (bt a0 a1)] rfl (by (try simp only [List.map_toArray, List.map_cons, List.map_nil]); first | done | rfl | (simp only [List.length_drop, List.length_take]; rfl)) ?_; (with_reducible refine (frisketref04_one.calls (bt a0 a1) true _ A54.out).mono ?_); rintro e w' ⟨rfl, ⟨nd, rfl⟩⟩; refine ⟨_, rfl, ?_⟩))
              go_ret2
              exact ⟨by first | rfl | (simp; done) | (simp only [← hsj59] <;> (first | rfl | simp)) | (simp [*]; done), by repeat (first | exact Drawn0.refl _ | apply Drawn0.step)⟩
             ·rw [if_neg c58] at H
              exact absurd H (by simp)
            ·rw [if_neg c57] at H
             exact absurd H (by simp)
           ·replace c55 := Bool.eq_false_iff.mpr c55
            subst c55
            have H1 : (some ((⟨#[]⟩ : ByteArray), (-1))) = some (r1, r2) := by rw [if_neg (show ¬ (false = true) by decide)] at H; exact H
            clear H
            have H := H1
            clear H1
            simp only [Option.some.injEq, Prod.mk.injEq] at H
            obtain ⟨rfl, rfl⟩ := H
            have p53 : 0 ≤ (a1 : Int) := of_decide_eq_true (by first | (with_reducible assumption) | assumption)
            have q53 : a1 < (a0.size : Int) := of_decide_eq_true (by first | (with_reducible assumption) | assumption)
            have hx53 := bt_at a0 a1
            replace p53 := eq_true p53
            replace q53 := eq_true q53
            go_wp2_with (first | ((with_reducible refine gate_callee (f := 56) rfl ?_); refine goesL_ (some 101) rfl rfl Tryd.func56 (by kernel_rfl) rfl #[.int .u8 (bt a0 a1)] rfl (by (try simp only [List.map_toArray, List.map_cons, List.map_nil]); first | done | rfl | (simp only [List.length_drop, List.length_take]; rfl)) ?_; (with_reducible refine (frisketref04_one.calls (bt a0 a1) false _ A54.out).mono ?_); rintro e w' ⟨rfl, ⟨nd, rfl⟩⟩; refine ⟨_, rfl, ?_⟩))
            go_ret2
            exact ⟨by first | rfl | (simp; done) | (simp [*]; done), by repeat (first | exact Drawn0.refl _ | apply Drawn0.step)⟩
          ·rw [if_neg c52] at H
           exact absurd H (by simp)
         ·rw [if_neg c51] at H
          exact absurd H (by simp)
   ·rw [if_neg c5] at H
    exact absurd H (by simp)
  ·rw [if_neg c4] at H
   exact absurd H (by simp)

end Go.Proofs.YtifpjidkfemkfaaDoor.Xb
