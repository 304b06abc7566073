-- YtmjglgbkigjfkaaDoorXa: written by wip/xprint.py of this repo, which drives the kit's print; not trusted: Lean checks it
import Derived.Test.YtmjglgbkigjfkaaDoorYa0
namespace Go.Proofs.YtmjglgbkigjfkaaDoor.Xa
open Go.RowKit Go.Proofs.YtmjglgbkigjfkaaDoorW.PrintWords Go.Proofs.YtmjglgbkigjfkaaDoorW.PrintLast Go.Proofs.YtmjglgbkigjfkaaDoorW.PrintMore
attribute [local go_sem] max2_int min2_int max_two min_two max_three min_three max_four min_four   -- for this text's walks alone
open Go.Proofs.YtmjglgbkigjfkaaDoor
set_option linter.unusedVariables false
set_option linter.unusedSimpArgs false

/-! ### frisketlaw09_Word: function 10 -/
def frisketlaw09_Word.l0 : Nat → List Int → ByteArray → Int → Option (ByteArray)
 | 0, _, _, _ => none
 | k + 1, x0, x3, x4 => if x4 < (x0.length : Int) then (if x4 < 60 then (if 0 ≤ x4 then (if 0 ≤ (wrap64 (Int.tmod (IntKind.u64.wrap (rd x0 x4)) 15)) then (if (wrap64 (Int.tmod (IntKind.u64.wrap (rd x0 x4)) 15)) ≤ (wrap64 ((wrap64 (Int.tmod (IntKind.u64.wrap (rd x0 x4)) 15)) + 1)) then (if (wrap64 ((wrap64 (Int.tmod (IntKind.u64.wrap (rd x0 x4)) 15)) + 1)) ≤ 15 then (if x3.size + ((⟨#[97, 98, 100, 101, 105, 108, 110, 111, 114, 115, 116, 117, 84, 69, 78]⟩ : ByteArray).extract ((wrap64 (Int.tmod (IntKind.u64.wrap (rd x0 x4)) 15)) : Int).toNat ((wrap64 ((wrap64 (Int.tmod (IntKind.u64.wrap (rd x0 x4)) 15)) + 1)) : Int).toNat).size ≤ 9223372036854775807 then (frisketlaw09_Word.l0 k x0 (x3 ++ ((⟨#[97, 98, 100, 101, 105, 108, 110, 111, 114, 115, 116, 117, 84, 69, 78]⟩ : ByteArray).extract ((wrap64 (Int.tmod (IntKind.u64.wrap (rd x0 x4)) 15)) : Int).toNat ((wrap64 ((wrap64 (Int.tmod (IntKind.u64.wrap (rd x0 x4)) 15)) + 1)) : Int).toNat)) (wrap64 (x4 + 1))) else (none)) else (none)) else (none)) else (none)) else (none)) else (if x3.toList = ([] : List UInt8) then (some (⟨#[97]⟩ : ByteArray)) else (some x3))) else (if x3.toList = ([] : List UInt8) then (some (⟨#[97]⟩ : ByteArray)) else (some x3))
def frisketlaw09_Word.f (k : Nat) (l0 : List Int) : Option (ByteArray) := frisketlaw09_Word.l0 k l0 (⟨#[]⟩ : ByteArray) 0
theorem frisketlaw09_Word.mono_l : ∀ k, (∀ y0 y1 y2, LeO (frisketlaw09_Word.l0 k y0 y1 y2) (frisketlaw09_Word.l0 (k + 1) y0 y1 y2))
 | 0 => fun _ _ _ r h => by simp [frisketlaw09_Word.l0] at h
 | k + 1 => by
  have ih0 := frisketlaw09_Word.mono_l k
  ·intro y0 y1 y2
   unfold frisketlaw09_Word.l0
   repeat' first
   | (with_reducible exact ih0 _ _ _)
   | (with_reducible exact LeO.refl _)
   | (with_reducible exact LeO.none _)
   | (with_reducible refine LeO.ite ?_ ?_)
   | (with_reducible refine LeO.bind ?_ (fun _ => ?_))
   | exact ih0 _ _ _
   | exact LeO.none _
   | refine LeO.ite ?_ ?_
   | refine LeO.bind ?_ (fun _ => ?_)
theorem frisketlaw09_Word.mono : ∀ a0 k, LeO (frisketlaw09_Word.f k a0) (frisketlaw09_Word.f (k + 1) a0) := by
 intro a0 k
 have ih0 := frisketlaw09_Word.mono_l k
 unfold frisketlaw09_Word.f
 repeat' first
   | (with_reducible exact ih0 _ _ _)
   | (with_reducible exact LeO.refl _)
   | (with_reducible exact LeO.none _)
   | (with_reducible refine LeO.ite ?_ ?_)
   | (with_reducible refine LeO.bind ?_ (fun _ => ?_))
   | exact ih0 _ _ _
   | exact LeO.none _
   | refine LeO.ite ?_ ?_
   | refine LeO.bind ?_ (fun _ => ?_)
set_option maxHeartbeats 8000000 in
set_option maxRecDepth 100000 in
theorem frisketlaw09_Word.calls (k : Nat) (A0 : Option Addr) (c0 : Nat) (l0 : List Int) (r : ByteArray) (w : World) (hr0 : Kd.C (Kd.int .i64) w A0 l0.length l0) (hc0 : l0.length ≤ c0) (h : frisketlaw09_Word.f k l0 = some r) :
  Calls Tryd.prog 10 #[.slice A0 l0.length c0] w fun e w' => e = .returned (.string r) ∧ Drawn0 w w' := by
 have HR0 := Aside0.mk hr0
 have HC0 := Aside0.mk hc0
 clear hr0 hc0
 have H : (frisketlaw09_Word.l0 k l0 (⟨#[]⟩ : ByteArray) 0) = some r := h
 clear h
 have H' := Aside0.mk H
 clear H
 go_enter Tryd.func10, Tryd.ntmps10
 go_wp2
 repeat (go_quiet (fail); try go_wp2)
 go_loopg [3, 4] k (fun kq v3 v4 w' => ∃ (x3_1 : ByteArray) (x4_1 : Int), v3 = .string x3_1 ∧ v4 = .int .i64 x4_1 ∧ Aside0 (frisketlaw09_Word.l0 kq l0 x3_1 x4_1 = some r) ∧ Aside0 (kq ≤ k) ∧ Drawn0 w w')
 case atStart => exact ⟨((⟨#[]⟩ : ByteArray)), (0), (by first | rfl | (simp; done) | (simp [*]; done)), (by first | rfl | (simp; done) | (simp [*]; done)), H', ⟨Nat.le_refl _⟩, by repeat (first | exact Drawn0.refl _ | apply Drawn0.step)⟩
 case round =>
  clear H'
  try clear c1
  obtain ⟨x3_1, x4_1, rfl, rfl, HA, HK1, ⟨m1, rfl⟩⟩ := hrel
  cases gk with
  | zero => exact absurd HA.out (by simp [frisketlaw09_Word.l0])
  | succ k1 =>
   have H := HA.out
   clear HA
   simp only [frisketlaw09_Word.l0] at H
   by_cases c2 : x4_1 < (l0.length : Int)
   ·rw [if_pos c2] at H
    have c2b0 : decide (x4_1 < (l0.length : Int)) = true := decide_eq_true c2
    clear c2
    by_cases c3 : x4_1 < 60
    ·rw [if_pos c3] at H
     have c3b0 : decide (x4_1 < 60) = true := decide_eq_true c3
     clear c3
     by_cases c4 : 0 ≤ x4_1
     ·rw [if_pos c4] at H
      have c4b0 : decide (0 ≤ x4_1) = true := decide_eq_true c4
      clear c4
      obtain ⟨ji5, hji5⟩ : ∃ j_ : Int, (wrap64 (Int.tmod (IntKind.u64.wrap (rd l0 x4_1)) 15)) = j_ := ⟨_, rfl⟩
      replace H : (if 0 ≤ (ji5) then (if (ji5) ≤ (wrap64 ((ji5) + 1)) then (if (wrap64 ((ji5) + 1)) ≤ 15 then (if x3_1.size + ((⟨#[97, 98, 100, 101, 105, 108, 110, 111, 114, 115, 116, 117, 84, 69, 78]⟩ : ByteArray).extract ((ji5) : Int).toNat ((wrap64 ((ji5) + 1)) : Int).toNat).size ≤ 9223372036854775807 then (frisketlaw09_Word.l0 k1 l0 (x3_1 ++ ((⟨#[97, 98, 100, 101, 105, 108, 110, 111, 114, 115, 116, 117, 84, 69, 78]⟩ : ByteArray).extract ((ji5) : Int).toNat ((wrap64 ((ji5) + 1)) : Int).toNat)) (wrap64 (x4_1 + 1))) else (none)) else (none)) else (none)) else (none)) = some r := by first | (rw [hji5] at H; exact H) | (simp only [hji5] at H ⊢; exact H)
      have hji5w : (IntKind.i64.wrap (Int.tmod (IntKind.u64.wrap (rd l0 x4_1)) 15)) = ji5 := (i64_w _).trans hji5
      by_cases c6 : 0 ≤ (ji5)
      ·rw [if_pos c6] at H
       have c6b0 := eq_true c6
       have c6b1 : decide (0 ≤ (ji5)) = true := decide_eq_true c6
       clear c6
       by_cases c7 : (ji5) ≤ (wrap64 ((ji5) + 1))
       ·rw [if_pos c7] at H
        have c7b0 := eq_true c7
        have c7b1 : decide ((ji5) ≤ (wrap64 ((ji5) + 1))) = true := decide_eq_true c7
        by_cases c8 : (wrap64 ((ji5) + 1)) ≤ 15
        ·rw [if_pos c8] at H
         have c8b0 := eq_true c8
         have c8b1 : decide ((wrap64 ((ji5) + 1)) ≤ 15) = true := decide_eq_true c8
         obtain ⟨sj9, hsj9⟩ : ∃ j_ : ByteArray, ((⟨#[97, 98, 100, 101, 105, 108, 110, 111, 114, 115, 116, 117, 84, 69, 78]⟩ : ByteArray).extract ((ji5) : Int).toNat ((wrap64 ((ji5) + 1)) : Int).toNat) = j_ := ⟨_, rfl⟩
         replace H : (if x3_1.size + sj9.size ≤ 9223372036854775807 then (frisketlaw09_Word.l0 k1 l0 (x3_1 ++ sj9) (wrap64 (x4_1 + 1))) else (none)) = some r := by first | (rw [hsj9] at H; exact H) | (simp only [hsj9] at H ⊢; exact H) | exact H
         by_cases c10 : x3_1.size + sj9.size ≤ 9223372036854775807
         ·rw [if_pos c10] at H
          have c10b0 := eq_true c10
          have c10b1 : decide (x3_1.size + sj9.size ≤ 9223372036854775807) = true := decide_eq_true c10
          try have c10b2 : (9223372036854775807 < x3_1.size + sj9.size) = False := eq_false (Nat.not_lt.2 c10)
          try (have c10y := c10; simp only [ByteArray.size_append, ByteArray.size_extract, bs0, bs1, bs2, bs3, bs4, bs5, bs6, bs7, bs8, bs9, bs10, bs11, bs12, bs13, bs14, bs15, bs16, bs17, bs18, bs19, bs20, bs21, bs22, bs23, bs24, bs25, bs26, bs27, bs28, bs29, bs30, bs31, bs32] at c10y; replace c10y := eq_false (Nat.not_lt.2 c10y))
          obtain ⟨sj11, hsj11⟩ : ∃ j_ : ByteArray, (x3_1 ++ sj9) = j_ := ⟨_, rfl⟩
          replace H : (frisketlaw09_Word.l0 k1 l0 sj11 (wrap64 (x4_1 + 1))) = some r := by first | (rw [hsj11] at H; exact H) | (simp only [hsj11] at H ⊢; exact H) | exact H
          have H' := Aside0.mk H
          clear H
          have p101 : 0 ≤ (x4_1 : Int) := of_decide_eq_true (by first | (with_reducible assumption) | assumption)
          have q101 : x4_1 < (l0.length : Int) := of_decide_eq_true (by first | (with_reducible assumption) | assumption)
          obtain ⟨ad101, e101, hx101_0⟩ := Kd.at_int HR0.out x4_1 p101 q101
          cases e101
          replace p101 := eq_true p101
          replace q101 := eq_true q101
          have p102 : 0 ≤ (x4_1 : Int) := of_decide_eq_true (by first | (with_reducible assumption) | assumption)
          have q102 : x4_1 < (l0.length : Int) := of_decide_eq_true (by first | (with_reducible assumption) | assumption)
          obtain ⟨ad102, e102, hx102_0⟩ := Kd.at_int HR0.out x4_1 p102 q102
          obtain rfl : ad101 = ad102 := (by injection e102)
          replace p102 := eq_true p102
          replace q102 := eq_true q102
          go_wp2
          repeat (go_quiet (fail); try go_wp2)
          go_roundg k1
          case measure => have := HK1.out; omega
          case rel => exact ⟨(sj11), (wrap64 (x4_1 + 1)), (by first | rfl | (simp; done) | (simp only [← hsj11] <;> (first | rfl | simp)) | (simp [*]; done)), (by first | rfl | (simp; done) | (simp [*]; done)), H', ⟨by have := HK1.out; omega⟩, by repeat (first | exact Drawn0.refl _ | apply Drawn0.step)⟩
         ·rw [if_neg c10] at H
          exact absurd H (by simp)
        ·rw [if_neg c8] at H
         exact absurd H (by simp)
       ·rw [if_neg c7] at H
        exact absurd H (by simp)
      ·rw [if_neg c6] at H
       exact absurd H (by simp)
     ·rw [if_neg c4] at H
      exact absurd H (by simp)
    ·rw [if_neg c3] at H
     have c3b0 : decide (x4_1 < 60) = false := decide_eq_false c3
     clear c3
     by_cases c12 : x3_1.toList = ([] : List UInt8)
     ·rw [if_pos c12] at H
      have c12b0 : (x3_1.toList == ([] : List UInt8)) = true := beq_iff_eq.mpr c12
      have c12b1 : (x3_1.toList != ([] : List UInt8)) = false := bne_eq_false_iff_eq.mpr c12
      clear c12
      obtain rfl := Option.some.inj H
      go_wp2
      repeat (go_quiet (fail); try go_wp2)
      go_ret
      exact ⟨by first | rfl | (simp; done) | (simp [*]; done), by repeat (first | exact Drawn0.refl _ | apply Drawn0.step)⟩
     ·rw [if_neg c12] at H
      have c12b0 : (x3_1.toList == ([] : List UInt8)) = false := beq_eq_false_iff_ne.mpr c12
      have c12b1 : (x3_1.toList != ([] : List UInt8)) = true := bne_iff_ne.mpr c12
      obtain rfl := Option.some.inj H
      go_wp2
      repeat (go_quiet (fail); try go_wp2)
      go_ret
      exact ⟨by first | rfl | (simp; done) | (simp [*]; done), by repeat (first | exact Drawn0.refl _ | apply Drawn0.step)⟩
   ·rw [if_neg c2] at H
    have c2b0 : decide (x4_1 < (l0.length : Int)) = false := decide_eq_false c2
    clear c2
    by_cases c13 : x3_1.toList = ([] : List UInt8)
    ·rw [if_pos c13] at H
     have c13b0 : (x3_1.toList == ([] : List UInt8)) = true := beq_iff_eq.mpr c13
     have c13b1 : (x3_1.toList != ([] : List UInt8)) = false := bne_eq_false_iff_eq.mpr c13
     clear c13
     obtain rfl := Option.some.inj H
     go_wp2
     repeat (go_quiet (fail); try go_wp2)
     go_ret
     exact ⟨by first | rfl | (simp; done) | (simp [*]; done), by repeat (first | exact Drawn0.refl _ | apply Drawn0.step)⟩
    ·rw [if_neg c13] at H
     have c13b0 : (x3_1.toList == ([] : List UInt8)) = false := beq_eq_false_iff_ne.mpr c13
     have c13b1 : (x3_1.toList != ([] : List UInt8)) = true := bne_iff_ne.mpr c13
     obtain rfl := Option.some.inj H
     go_wp2
     repeat (go_quiet (fail); try go_wp2)
     go_ret
     exact ⟨by first | rfl | (simp; done) | (simp [*]; done), by repeat (first | exact Drawn0.refl _ | apply Drawn0.step)⟩

end Go.Proofs.YtmjglgbkigjfkaaDoor.Xa
