-- YtmjglgbkigjfkaaDoorXa: written by wip/xprint.py of this repo, which drives the kit's print; not trusted: Lean checks it
import Derived.Test.YtmjglgbkigjfkaaDoorYa0
import Derived.Test.YtmjglgbkigjfkaaDoorYa13
namespace Go.Proofs.YtmjglgbkigjfkaaDoor.Xa
open Go.RowKit Go.Proofs.YtmjglgbkigjfkaaDoorW.PrintWords Go.Proofs.YtmjglgbkigjfkaaDoorW.PrintLast Go.Proofs.YtmjglgbkigjfkaaDoorW.PrintMore
attribute [local go_sem] max2_int min2_int max_two min_two max_three min_three max_four min_four   -- for this text's walks alone
open Go.Proofs.YtmjglgbkigjfkaaDoor
set_option linter.unusedVariables false
set_option linter.unusedSimpArgs false

/-! ### frisketref09_Show: function 25 -/
def frisketref09_Show.l0 : Nat → ByteArray → List Int → ByteArray → Int → Int → Option (ByteArray × Int)
 | 0, _, _, _, _, _ => none
 | k + 1, x0, x1, x6, x7, x8 => if x8 < (x1.length : Int) then (if 0 ≤ x8 then (if (rd x1 x8) ≤ x7 then (some ((⟨#[]⟩ : ByteArray), 1)) else (if (rd x1 x8) ≥ (x0.size : Int) then (some ((⟨#[]⟩ : ByteArray), 1)) else (if 0 ≤ x7 then (if x7 ≤ (rd x1 x8) then (if (rd x1 x8) ≤ (x0.size : Int) then (if (x0.extract (x7 : Int).toNat ((rd x1 x8) : Int).toNat).size + 1 ≤ 9223372036854775807 then (if x6.size + ((x0.extract (x7 : Int).toNat ((rd x1 x8) : Int).toNat) ++ (⟨#[45]⟩ : ByteArray)).size ≤ 9223372036854775807 then (frisketref09_Show.l0 k x0 x1 (x6 ++ ((x0.extract (x7 : Int).toNat ((rd x1 x8) : Int).toNat) ++ (⟨#[45]⟩ : ByteArray))) (rd x1 x8) (wrap64 (x8 + 1))) else (none)) else (none)) else (none)) else (none)) else (none)))) else (none)) else (if 0 ≤ x7 then (if x7 ≤ (x0.size : Int) then (if x6.size + (x0.extract (x7 : Int).toNat x0.size).size ≤ 9223372036854775807 then (some ((x6 ++ (x0.extract (x7 : Int).toNat x0.size)), 0)) else (none)) else (none)) else (none))
def frisketref09_Show.f (k : Nat) (a0 : ByteArray) (l1 : List Int) : Option (ByteArray × Int) := (frisketref09_word.f k a0).bind fun t423 => (if t423 = true then (frisketref09_Show.l0 k a0 l1 (⟨#[]⟩ : ByteArray) 0 0) else (some ((⟨#[]⟩ : ByteArray), 1)))
theorem frisketref09_Show.mono_l : ∀ k, (∀ y0 y1 y2 y3 y4, LeO (frisketref09_Show.l0 k y0 y1 y2 y3 y4) (frisketref09_Show.l0 (k + 1) y0 y1 y2 y3 y4))
 | 0 => fun _ _ _ _ _ r h => by simp [frisketref09_Show.l0] at h
 | k + 1 => by
  have ih0 := frisketref09_Show.mono_l k
  ·intro y0 y1 y2 y3 y4
   unfold frisketref09_Show.l0
   repeat' first
   | (with_reducible exact ih0 _ _ _ _ _)
   | (with_reducible exact frisketref09_word.mono _ _)
   | (with_reducible exact LeO.refl _)
   | (with_reducible exact LeO.none _)
   | (with_reducible refine LeO.ite ?_ ?_)
   | (with_reducible refine LeO.bind ?_ (fun _ => ?_))
   | exact ih0 _ _ _ _ _
   | exact frisketref09_word.mono _ _
   | exact LeO.none _
   | refine LeO.ite ?_ ?_
   | refine LeO.bind ?_ (fun _ => ?_)
theorem frisketref09_Show.mono : ∀ a0 a1 k, LeO (frisketref09_Show.f k a0 a1) (frisketref09_Show.f (k + 1) a0 a1) := by
 intro a0 a1 k
 have ih0 := frisketref09_Show.mono_l k
 unfold frisketref09_Show.f
 repeat' first
   | (with_reducible exact ih0 _ _ _ _ _)
   | (with_reducible exact frisketref09_word.mono _ _)
   | (with_reducible exact LeO.refl _)
   | (with_reducible exact LeO.none _)
   | (with_reducible refine LeO.ite ?_ ?_)
   | (with_reducible refine LeO.bind ?_ (fun _ => ?_))
   | exact ih0 _ _ _ _ _
   | exact frisketref09_word.mono _ _
   | exact LeO.none _
   | refine LeO.ite ?_ ?_
   | refine LeO.bind ?_ (fun _ => ?_)
set_option maxHeartbeats 8000000 in
set_option maxRecDepth 100000 in
theorem frisketref09_Show.calls (k : Nat) (a0 : ByteArray) (A1 : Option Addr) (c1 : Nat) (l1 : List Int) (r1 : ByteArray) (r2 : Int) (w : World) (hr1 : Kd.C (Kd.int .i64) w A1 l1.length l1) (hc1 : l1.length ≤ c1) (h : frisketref09_Show.f k a0 l1 = some (r1, r2)) :
  Calls Tryd.prog 25 #[.string a0, .slice A1 l1.length c1] w fun e w' => e = .returned (.tuple #[.string r1, .int .i64 r2]) ∧ Drawn0 w w' := by
 have HR1 := Aside0.mk hr1
 have HC1 := Aside0.mk hc1
 clear hr1 hc1
 have H : ((frisketref09_word.f k a0).bind fun t423 => (if t423 = true then (frisketref09_Show.l0 k a0 l1 (⟨#[]⟩ : ByteArray) 0 0) else (some ((⟨#[]⟩ : ByteArray), 1)))) = some (r1, r2) := h
 clear h
 replace H := Option.bind_eq_some_iff.mp H
 obtain ⟨t423, A30, H⟩ := H
 replace H : (if t423 = true then (frisketref09_Show.l0 k a0 l1 (⟨#[]⟩ : ByteArray) 0 0) else (some ((⟨#[]⟩ : ByteArray), 1))) = some (r1, r2) := H
 have A3 := Aside0.mk A30
 clear A30
 by_cases c4 : t423 = true
 ·subst c4
  have H1 : (frisketref09_Show.l0 k a0 l1 (⟨#[]⟩ : ByteArray) 0 0) = some (r1, r2) := by rw [if_pos rfl] at H; exact H
  clear H
  have H := H1
  clear H1
  have H' := Aside0.mk H
  clear H
  go_enter Tryd.func25, Tryd.ntmps25
  go_wp2_with (first | ((with_reducible refine gate_callee (f := 43) rfl ?_); refine goesL_ (some 10) rfl rfl Tryd.func43 (by kernel_rfl) rfl #[.string a0] rfl (by (try simp only [List.map_toArray, List.map_cons, List.map_nil]); first | done | rfl | (simp only [List.length_drop, List.length_take]; rfl)) ?_; (with_reducible refine (frisketref09_word.calls k a0 true _ A3.out).mono ?_); rintro e w' ⟨rfl, ⟨nd, rfl⟩⟩; refine ⟨_, rfl, ?_⟩))
  go_loopg [6, 7, 8] k (fun kq v6 v7 v8 w' => ∃ (x6_1 : ByteArray) (x7_1 : Int) (x8_1 : Int), v6 = .string x6_1 ∧ v7 = .int .i64 x7_1 ∧ v8 = .int .i64 x8_1 ∧ Aside0 (frisketref09_Show.l0 kq a0 l1 x6_1 x7_1 x8_1 = some (r1, r2)) ∧ Aside0 (kq ≤ k) ∧ Drawn0 w w')
  case atStart => exact ⟨((⟨#[]⟩ : ByteArray)), (0), (0), (by first | rfl | (simp; done) | (simp [*]; done)), (by first | rfl | (simp; done) | (simp [*]; done)), (by first | rfl | (simp; done) | (simp [*]; done)), H', ⟨Nat.le_refl _⟩, by repeat (first | exact Drawn0.refl _ | apply Drawn0.step)⟩
  case round =>
   clear H'
   try clear c1
   try clear c2
   try clear p2
   try clear c4
   obtain ⟨x6_1, x7_1, x8_1, rfl, rfl, rfl, HA, HK1, ⟨m1, rfl⟩⟩ := hrel
   cases gk with
   | zero => exact absurd HA.out (by simp [frisketref09_Show.l0])
   | succ k1 =>
    have H := HA.out
    clear HA
    simp only [frisketref09_Show.l0] at H
    by_cases c5 : x8_1 < (l1.length : Int)
    ·rw [if_pos c5] at H
     have c5b0 : decide (x8_1 < (l1.length : Int)) = true := decide_eq_true c5
     clear c5
     by_cases c6 : 0 ≤ x8_1
     ·rw [if_pos c6] at H
      have c6b0 : decide (0 ≤ x8_1) = true := decide_eq_true c6
      clear c6
      by_cases c7 : (rd l1 x8_1) ≤ x7_1
      ·rw [if_pos c7] at H
       have c7b0 : decide ((rd l1 x8_1) ≤ x7_1) = true := decide_eq_true c7
       clear c7
       simp only [Option.some.injEq, Prod.mk.injEq] at H
       obtain ⟨rfl, rfl⟩ := H
       have p424 : 0 ≤ (x8_1 : Int) := of_decide_eq_true (by first | (with_reducible assumption) | assumption)
       have q424 : x8_1 < (l1.length : Int) := of_decide_eq_true (by first | (with_reducible assumption) | assumption)
       obtain ⟨ad424, e424, hx424_0⟩ := Kd.at_int HR1.out x8_1 p424 q424
       cases e424
       replace p424 := eq_true p424
       replace q424 := eq_true q424
       go_wp2
       go_ret2
       exact ⟨by first | rfl | (simp; done) | (simp [*]; done), by repeat (first | exact Drawn0.refl _ | apply Drawn0.step)⟩
      ·rw [if_neg c7] at H
       have c7b0 : decide ((rd l1 x8_1) ≤ x7_1) = false := decide_eq_false c7
       clear c7
       by_cases c8 : (rd l1 x8_1) ≥ (a0.size : Int)
       ·rw [if_pos c8] at H
        have c8b0 : decide ((a0.size : Int) ≤ (rd l1 x8_1)) = true := decide_eq_true c8
        clear c8
        simp only [Option.some.injEq, Prod.mk.injEq] at H
        obtain ⟨rfl, rfl⟩ := H
        have p424 : 0 ≤ (x8_1 : Int) := of_decide_eq_true (by first | (with_reducible assumption) | assumption)
        have q424 : x8_1 < (l1.length : Int) := of_decide_eq_true (by first | (with_reducible assumption) | assumption)
        obtain ⟨ad424, e424, hx424_0⟩ := Kd.at_int HR1.out x8_1 p424 q424
        cases e424
        replace p424 := eq_true p424
        replace q424 := eq_true q424
        have p425 : 0 ≤ (x8_1 : Int) := of_decide_eq_true (by first | (with_reducible assumption) | assumption)
        have q425 : x8_1 < (l1.length : Int) := of_decide_eq_true (by first | (with_reducible assumption) | assumption)
        obtain ⟨ad425, e425, hx425_0⟩ := Kd.at_int HR1.out x8_1 p425 q425
        obtain rfl : ad424 = ad425 := (by injection e425)
        replace p425 := eq_true p425
        replace q425 := eq_true q425
        go_wp2
        go_ret2
        exact ⟨by first | rfl | (simp; done) | (simp [*]; done), by repeat (first | exact Drawn0.refl _ | apply Drawn0.step)⟩
       ·rw [if_neg c8] at H
        have c8b0 : decide ((a0.size : Int) ≤ (rd l1 x8_1)) = false := decide_eq_false c8
        clear c8
        by_cases c9 : 0 ≤ x7_1
        ·rw [if_pos c9] at H
         have c9b0 := eq_true c9
         have c9b1 : decide (0 ≤ x7_1) = true := decide_eq_true c9
         clear c9
         by_cases c10 : x7_1 ≤ (rd l1 x8_1)
         ·rw [if_pos c10] at H
          have c10b0 := eq_true c10
          have c10b1 : decide (x7_1 ≤ (rd l1 x8_1)) = true := decide_eq_true c10
          clear c10
          by_cases c11 : (rd l1 x8_1) ≤ (a0.size : Int)
          ·rw [if_pos c11] at H
           have c11b0 := eq_true c11
           have c11b1 : decide ((rd l1 x8_1) ≤ (a0.size : Int)) = true := decide_eq_true c11
           clear c11
           obtain ⟨sj12, hsj12⟩ : ∃ j_ : ByteArray, (a0.extract (x7_1 : Int).toNat ((rd l1 x8_1) : Int).toNat) = j_ := ⟨_, rfl⟩
           replace H : (if sj12.size + 1 ≤ 9223372036854775807 then (if x6_1.size + (sj12 ++ (⟨#[45]⟩ : ByteArray)).size ≤ 9223372036854775807 then (frisketref09_Show.l0 k1 a0 l1 (x6_1 ++ (sj12 ++ (⟨#[45]⟩ : ByteArray))) (rd l1 x8_1) (wrap64 (x8_1 + 1))) else (none)) else (none)) = some (r1, r2) := by first | (rw [hsj12] at H; exact H) | (simp only [hsj12] at H ⊢; exact H) | exact H
           by_cases c13 : sj12.size + 1 ≤ 9223372036854775807
           ·rw [if_pos c13] at H
            have c13b0 := eq_true c13
            have c13b1 : decide (sj12.size + 1 ≤ 9223372036854775807) = true := decide_eq_true c13
            try have c13b2 : (9223372036854775807 < sj12.size + 1) = False := eq_false (Nat.not_lt.2 c13)
            try (have c13y := c13; simp only [ByteArray.size_append, ByteArray.size_extract, bs0, bs1, bs2, bs3, bs4, bs5, bs6, bs7, bs8, bs9, bs10, bs11, bs12, bs13, bs14, bs15, bs16, bs17, bs18, bs19, bs20, bs21, bs22, bs23, bs24, bs25, bs26, bs27, bs28, bs29, bs30, bs31, bs32] at c13y; replace c13y := eq_false (Nat.not_lt.2 c13y))
            obtain ⟨sj14, hsj14⟩ : ∃ j_ : ByteArray, (sj12 ++ (⟨#[45]⟩ : ByteArray)) = j_ := ⟨_, rfl⟩
            replace H : (if x6_1.size + sj14.size ≤ 9223372036854775807 then (frisketref09_Show.l0 k1 a0 l1 (x6_1 ++ sj14) (rd l1 x8_1) (wrap64 (x8_1 + 1))) else (none)) = some (r1, r2) := by first | (rw [hsj14] at H; exact H) | (simp only [hsj14] at H ⊢; exact H) | exact H
            by_cases c15 : x6_1.size + sj14.size ≤ 9223372036854775807
            ·rw [if_pos c15] at H
             have c15b0 := eq_true c15
             have c15b1 : decide (x6_1.size + sj14.size ≤ 9223372036854775807) = true := decide_eq_true c15
             try have c15b2 : (9223372036854775807 < x6_1.size + sj14.size) = False := eq_false (Nat.not_lt.2 c15)
             try (have c15y := c15; simp only [ByteArray.size_append, ByteArray.size_extract, bs0, bs1, bs2, bs3, bs4, bs5, bs6, bs7, bs8, bs9, bs10, bs11, bs12, bs13, bs14, bs15, bs16, bs17, bs18, bs19, bs20, bs21, bs22, bs23, bs24, bs25, bs26, bs27, bs28, bs29, bs30, bs31, bs32] at c15y; replace c15y := eq_false (Nat.not_lt.2 c15y))
             obtain ⟨sj16, hsj16⟩ : ∃ j_ : ByteArray, (x6_1 ++ sj14) = j_ := ⟨_, rfl⟩
             replace H : (frisketref09_Show.l0 k1 a0 l1 sj16 (rd l1 x8_1) (wrap64 (x8_1 + 1))) = some (r1, r2) := by first | (rw [hsj16] at H; exact H) | (simp only [hsj16] at H ⊢; exact H) | exact H
             have H' := Aside0.mk H
             clear H
             have p424 : 0 ≤ (x8_1 : Int) := of_decide_eq_true (by first | (with_reducible assumption) | assumption)
             have q424 : x8_1 < (l1.length : Int) := of_decide_eq_true (by first | (with_reducible assumption) | assumption)
             obtain ⟨ad424, e424, hx424_0⟩ := Kd.at_int HR1.out x8_1 p424 q424
             cases e424
             replace p424 := eq_true p424
             replace q424 := eq_true q424
             have p425 : 0 ≤ (x8_1 : Int) := of_decide_eq_true (by first | (with_reducible assumption) | assumption)
             have q425 : x8_1 < (l1.length : Int) := of_decide_eq_true (by first | (with_reducible assumption) | assumption)
             obtain ⟨ad425, e425, hx425_0⟩ := Kd.at_int HR1.out x8_1 p425 q425
             obtain rfl : ad424 = ad425 := (by injection e425)
             replace p425 := eq_true p425
             replace q425 := eq_true q425
             have p426 : 0 ≤ (x8_1 : Int) := of_decide_eq_true (by first | (with_reducible assumption) | assumption)
             have q426 : x8_1 < (l1.length : Int) := of_decide_eq_true (by first | (with_reducible assumption) | assumption)
             obtain ⟨ad426, e426, hx426_0⟩ := Kd.at_int HR1.out x8_1 p426 q426
             obtain rfl : ad424 = ad426 := (by injection e426)
             replace p426 := eq_true p426
             replace q426 := eq_true q426
             have p427 : 0 ≤ (x8_1 : Int) := of_decide_eq_true (by first | (with_reducible assumption) | assumption)
             have q427 : x8_1 < (l1.length : Int) := of_decide_eq_true (by first | (with_reducible assumption) | assumption)
             obtain ⟨ad427, e427, hx427_0⟩ := Kd.at_int HR1.out x8_1 p427 q427
             obtain rfl : ad424 = ad427 := (by injection e427)
             replace p427 := eq_true p427
             replace q427 := eq_true q427
             go_wp2
             go_roundg k1
             case measure => have := HK1.out; omega
             case rel => exact ⟨(sj16), (rd l1 x8_1), (wrap64 (x8_1 + 1)), (by first | rfl | (simp; done) | (simp only [← hsj16] <;> (first | rfl | simp)) | (simp [*]; done)), (by first | rfl | (simp; done) | (simp [*]; done)), (by first | rfl | (simp; done) | (simp [*]; done)), H', ⟨by have := HK1.out; omega⟩, by repeat (first | exact Drawn0.refl _ | apply Drawn0.step)⟩
            ·rw [if_neg c15] at H
             exact absurd H (by simp)
           ·rw [if_neg c13] at H
            exact absurd H (by simp)
          ·rw [if_neg c11] at H
           exact absurd H (by simp)
         ·rw [if_neg c10] at H
          exact absurd H (by simp)
        ·rw [if_neg c9] at H
         exact absurd H (by simp)
     ·rw [if_neg c6] at H
      exact absurd H (by simp)
    ·rw [if_neg c5] at H
     have c5b0 : decide (x8_1 < (l1.length : Int)) = false := decide_eq_false c5
     clear c5
     by_cases c17 : 0 ≤ x7_1
     ·rw [if_pos c17] at H
      have c17b0 := eq_true c17
      have c17b1 : decide (0 ≤ x7_1) = true := decide_eq_true c17
      clear c17
      by_cases c18 : x7_1 ≤ (a0.size : Int)
      ·rw [if_pos c18] at H
       have c18b0 := eq_true c18
       have c18b1 : decide (x7_1 ≤ (a0.size : Int)) = true := decide_eq_true c18
       clear c18
       obtain ⟨sj19, hsj19⟩ : ∃ j_ : ByteArray, (a0.extract (x7_1 : Int).toNat a0.size) = j_ := ⟨_, rfl⟩
       replace H : (if x6_1.size + sj19.size ≤ 9223372036854775807 then (some ((x6_1 ++ sj19), 0)) else (none)) = some (r1, r2) := by first | (rw [hsj19] at H; exact H) | (simp only [hsj19] at H ⊢; exact H) | exact H
       by_cases c20 : x6_1.size + sj19.size ≤ 9223372036854775807
       ·rw [if_pos c20] at H
        have c20b0 := eq_true c20
        have c20b1 : decide (x6_1.size + sj19.size ≤ 9223372036854775807) = true := decide_eq_true c20
        try have c20b2 : (9223372036854775807 < x6_1.size + sj19.size) = False := eq_false (Nat.not_lt.2 c20)
        try (have c20y := c20; simp only [ByteArray.size_append, ByteArray.size_extract, bs0, bs1, bs2, bs3, bs4, bs5, bs6, bs7, bs8, bs9, bs10, bs11, bs12, bs13, bs14, bs15, bs16, bs17, bs18, bs19, bs20, bs21, bs22, bs23, bs24, bs25, bs26, bs27, bs28, bs29, bs30, bs31, bs32] at c20y; replace c20y := eq_false (Nat.not_lt.2 c20y))
        obtain ⟨sj21, hsj21⟩ : ∃ j_ : ByteArray, (x6_1 ++ sj19) = j_ := ⟨_, rfl⟩
        replace H : (some (sj21, 0)) = some (r1, r2) := by first | (rw [hsj21] at H; exact H) | (simp only [hsj21] at H ⊢; exact H) | exact H
        simp only [Option.some.injEq, Prod.mk.injEq] at H
        obtain ⟨rfl, rfl⟩ := H
        go_wp2
        go_ret2
        exact ⟨by first | rfl | (simp; done) | (simp only [← hsj19, ← hsj21] <;> (first | rfl | simp)) | (simp [*]; done), by repeat (first | exact Drawn0.refl _ | apply Drawn0.step)⟩
       ·rw [if_neg c20] at H
        exact absurd H (by simp)
      ·rw [if_neg c18] at H
       exact absurd H (by simp)
     ·rw [if_neg c17] at H
      exact absurd H (by simp)
 ·replace c4 := Bool.eq_false_iff.mpr c4
  subst c4
  have H1 : (some ((⟨#[]⟩ : ByteArray), 1)) = some (r1, r2) := by rw [if_neg (show ¬ (false = true) by decide)] at H; exact H
  clear H
  have H := H1
  clear H1
  simp only [Option.some.injEq, Prod.mk.injEq] at H
  obtain ⟨rfl, rfl⟩ := H
  go_enter Tryd.func25, Tryd.ntmps25
  go_wp2_with (first | ((with_reducible refine gate_callee (f := 43) rfl ?_); refine goesL_ (some 10) rfl rfl Tryd.func43 (by kernel_rfl) rfl #[.string a0] rfl (by (try simp only [List.map_toArray, List.map_cons, List.map_nil]); first | done | rfl | (simp only [List.length_drop, List.length_take]; rfl)) ?_; (with_reducible refine (frisketref09_word.calls k a0 false _ A3.out).mono ?_); rintro e w' ⟨rfl, ⟨nd, rfl⟩⟩; refine ⟨_, rfl, ?_⟩))
  go_ret2
  exact ⟨by first | rfl | (simp; done) | (simp [*]; done), by repeat (first | exact Drawn0.refl _ | apply Drawn0.step)⟩

end Go.Proofs.YtmjglgbkigjfkaaDoor.Xa
