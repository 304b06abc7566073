-- YtmjglgbkigjfkaaDoorXa: written by wip/xprint.py of this repo, which drives the kit's print; not trusted: Lean checks it
import Derived.Test.YtmjglgbkigjfkaaDoorYa0
import Derived.Test.YtmjglgbkigjfkaaDoorYa5
namespace Go.Proofs.YtmjglgbkigjfkaaDoor.Xa
open Go.RowKit Go.Proofs.YtmjglgbkigjfkaaDoorW.PrintWords Go.Proofs.YtmjglgbkigjfkaaDoorW.PrintLast Go.Proofs.YtmjglgbkigjfkaaDoorW.PrintMore
attribute [local go_sem] max2_int min2_int max_two min_two max_three min_three max_four min_four   -- for this text's walks alone
open Go.Proofs.YtmjglgbkigjfkaaDoor
set_option linter.unusedVariables false
set_option linter.unusedSimpArgs false

/-! ### hyphen_Show: function 24 -/
def hyphen_Show.l0 : Nat → ByteArray → ByteArray → Int → List Int → Int → Int → Option (ByteArray × Int)
 | 0, _, _, _, _, _, _ => none
 | k + 1, x0, x8, x9, x19, x20, x21 => if x21 < x20 then (if 0 ≤ x21 then (if x21 < (x19.length : Int) then (if (rd x19 x21) ≤ x9 then (some ((⟨#[]⟩ : ByteArray), 1)) else (if (rd x19 x21) ≥ (x0.size : Int) then (some ((⟨#[]⟩ : ByteArray), 1)) else (if 0 ≤ x9 then (if x9 ≤ (rd x19 x21) then (if (rd x19 x21) ≤ (x0.size : Int) then (if (x0.extract (x9 : Int).toNat ((rd x19 x21) : Int).toNat).size + 1 ≤ 9223372036854775807 then (if x8.size + ((x0.extract (x9 : Int).toNat ((rd x19 x21) : Int).toNat) ++ (⟨#[45]⟩ : ByteArray)).size ≤ 9223372036854775807 then (hyphen_Show.l0 k x0 (x8 ++ ((x0.extract (x9 : Int).toNat ((rd x19 x21) : Int).toNat) ++ (⟨#[45]⟩ : ByteArray))) (rd x19 x21) x19 x20 (wrap64 (x21 + 1))) else (none)) else (none)) else (none)) else (none)) else (none)))) else (none)) else (none)) else (if 0 ≤ x9 then (if x9 ≤ (x0.size : Int) then (if x8.size + (x0.extract (x9 : Int).toNat x0.size).size ≤ 9223372036854775807 then (some ((x8 ++ (x0.extract (x9 : Int).toNat x0.size)), 0)) else (none)) else (none)) else (none))
def hyphen_Show.f (k : Nat) (a0 : ByteArray) (l1 : List Int) : Option (ByteArray × Int) := (hyphen_low.f a0).bind fun bt420 => (if bt420.2 = true then (hyphen_Show.l0 k a0 (⟨#[]⟩ : ByteArray) 0 l1 (l1.length : Int) 0) else (some ((⟨#[]⟩ : ByteArray), 1)))
theorem hyphen_Show.mono_l : ∀ k, (∀ y0 y1 y2 y3 y4 y5, LeO (hyphen_Show.l0 k y0 y1 y2 y3 y4 y5) (hyphen_Show.l0 (k + 1) y0 y1 y2 y3 y4 y5))
 | 0 => fun _ _ _ _ _ _ r h => by simp [hyphen_Show.l0] at h
 | k + 1 => by
  have ih0 := hyphen_Show.mono_l k
  ·intro y0 y1 y2 y3 y4 y5
   unfold hyphen_Show.l0
   repeat' first
   | (with_reducible exact ih0 _ _ _ _ _ _)
   | (with_reducible exact LeO.refl _)
   | (with_reducible exact LeO.none _)
   | (with_reducible refine LeO.ite ?_ ?_)
   | (with_reducible refine LeO.bind ?_ (fun _ => ?_))
   | exact ih0 _ _ _ _ _ _
   | exact LeO.none _
   | refine LeO.ite ?_ ?_
   | refine LeO.bind ?_ (fun _ => ?_)
theorem hyphen_Show.mono : ∀ a0 a1 k, LeO (hyphen_Show.f k a0 a1) (hyphen_Show.f (k + 1) a0 a1) := by
 intro a0 a1 k
 have ih0 := hyphen_Show.mono_l k
 unfold hyphen_Show.f
 repeat' first
   | (with_reducible exact ih0 _ _ _ _ _ _)
   | (with_reducible exact LeO.refl _)
   | (with_reducible exact LeO.none _)
   | (with_reducible refine LeO.ite ?_ ?_)
   | (with_reducible refine LeO.bind ?_ (fun _ => ?_))
   | exact ih0 _ _ _ _ _ _
   | exact LeO.none _
   | refine LeO.ite ?_ ?_
   | refine LeO.bind ?_ (fun _ => ?_)
set_option maxHeartbeats 8000000 in
set_option maxRecDepth 100000 in
theorem hyphen_Show.calls (k : Nat) (a0 : ByteArray) (A1 : Option Addr) (c1 : Nat) (l1 : List Int) (r1 : ByteArray) (r2 : Int) (w : World) (hr1 : Kd.C (Kd.int .i64) w A1 l1.length l1) (hc1 : l1.length ≤ c1) (h : hyphen_Show.f k a0 l1 = some (r1, r2)) :
  Calls Tryd.prog 24 #[.string a0, .slice A1 l1.length c1] w fun e w' => e = .returned (.tuple #[.string r1, .int .i64 r2]) ∧ Below w.heap.size w w' := by
 have HR1 := Aside0.mk hr1
 have HC1 := Aside0.mk hc1
 clear hr1 hc1
 have HB := Aside0.mk (Below.refl w.heap.size w)
 have H : ((hyphen_low.f a0).bind fun bt420 => (if bt420.2 = true then (hyphen_Show.l0 k a0 (⟨#[]⟩ : ByteArray) 0 l1 (l1.length : Int) 0) else (some ((⟨#[]⟩ : ByteArray), 1)))) = some (r1, r2) := h
 clear h
 replace H := Option.bind_eq_some_iff.mp H
 obtain ⟨⟨t420, t421⟩, A30, H⟩ := H
 replace H : (if t421 = true then (hyphen_Show.l0 k a0 (⟨#[]⟩ : ByteArray) 0 l1 (l1.length : Int) 0) else (some ((⟨#[]⟩ : ByteArray), 1))) = some (r1, r2) := H
 have A3 := Aside0.mk A30
 clear A30
 by_cases c4 : t421 = true
 ·subst c4
  have H1 : (hyphen_Show.l0 k a0 (⟨#[]⟩ : ByteArray) 0 l1 (l1.length : Int) 0) = some (r1, r2) := by rw [if_pos rfl] at H; exact H
  clear H
  have H := H1
  clear H1
  have H' := Aside0.mk H
  clear H
  go_enter Tryd.func24, Tryd.ntmps24
  go_wp2_with (first | ((with_reducible refine gate_callee (f := 31) rfl ?_); refine goesL_ (some 14) rfl rfl Tryd.func31 (by kernel_rfl) rfl #[.string a0] rfl (by (try simp only [List.map_toArray, List.map_cons, List.map_nil]); first | done | rfl | (simp only [List.length_drop, List.length_take]; rfl)) ?_; (with_reducible refine (hyphen_low.calls a0 t420 true _ A3.out).mono ?_); rintro e w5 ⟨rfl, hb⟩; refine ⟨_, rfl, ?_⟩; have n0_ := Aside0.mk (below_step (by repeat (first | (with_reducible first | exact HB.out | apply below_alloc | apply pw_below_drewN | apply below_drew1) | exact HB.out)) hb); clear HB; have HB := n0_; clear n0_; (try clear hb); (try clear hb2); (try clear hk); (try clear hi)))
  go_loopg [8, 9, 21] k (fun kq v8 v9 v21 w' => ∃ (x8_1 : ByteArray) (x9_1 : Int) (x21_1 : Int), v8 = .string x8_1 ∧ v9 = .int .i64 x9_1 ∧ v21 = .int .i64 x21_1 ∧ Aside0 (hyphen_Show.l0 kq a0 x8_1 x9_1 l1 (l1.length : Int) x21_1 = some (r1, r2)) ∧ Aside0 (kq ≤ k) ∧ Aside0 (Below w.heap.size w w'))
  case atStart => exact ⟨((⟨#[]⟩ : ByteArray)), (0), (0), (by first | rfl | (simp; done) | (simp [*]; done)), (by first | rfl | (simp; done) | (simp [*]; done)), (by first | rfl | (simp; done) | (simp [*]; done)), H', ⟨Nat.le_refl _⟩, ⟨by repeat (first | (with_reducible first | exact HB.out | apply below_alloc | apply pw_below_drewN | apply below_drew1) | exact HB.out)⟩⟩
  case round =>
   clear H'
   try clear c1
   try clear c2
   try clear p2
   try clear c3
   try clear c4
   obtain ⟨x8_1, x9_1, x21_1, rfl, rfl, rfl, HA, HK1, HB⟩ := hrel
   cases gk with
   | zero => exact absurd HA.out (by simp [hyphen_Show.l0])
   | succ k1 =>
    have H := HA.out
    clear HA
    simp only [hyphen_Show.l0] at H
    by_cases c6 : x21_1 < (l1.length : Int)
    ·rw [if_pos c6] at H
     have c6b0 : decide (x21_1 < (l1.length : Int)) = true := decide_eq_true c6
     clear c6
     by_cases c7 : 0 ≤ x21_1
     ·rw [if_pos c7] at H
      have c7b0 : decide (0 ≤ x21_1) = true := decide_eq_true c7
      clear c7
      by_cases c8 : x21_1 < (l1.length : Int)
      ·rw [if_pos c8] at H
       have c8b0 : decide (x21_1 < (l1.length : Int)) = true := decide_eq_true c8
       clear c8
       by_cases c9 : (rd l1 x21_1) ≤ x9_1
       ·rw [if_pos c9] at H
        have c9b0 : decide ((rd l1 x21_1) ≤ x9_1) = true := decide_eq_true c9
        clear c9
        simp only [Option.some.injEq, Prod.mk.injEq] at H
        obtain ⟨rfl, rfl⟩ := H
        have p422 : 0 ≤ (x21_1 : Int) := of_decide_eq_true (by first | (with_reducible assumption) | assumption)
        have q422 : x21_1 < (l1.length : Int) := of_decide_eq_true (by first | (with_reducible assumption) | assumption)
        obtain ⟨ad422, e422, hx422_0⟩ := Kd.at_int HR1.out x21_1 p422 q422
        cases e422
        replace hx422_0 := (HB.out.cell (World.block_lt_of_cell? w _ hx422_0)).trans hx422_0
        replace p422 := eq_true p422
        replace q422 := eq_true q422
        go_wp2
        go_ret2
        exact ⟨by first | rfl | (simp [errW_none, errW_some] <;> rfl) | (simp [*, errW_none, errW_some] <;> rfl), by repeat (first | (with_reducible first | exact HB.out | apply below_alloc | apply pw_below_drewN | apply below_drew1) | exact HB.out)⟩
       ·rw [if_neg c9] at H
        have c9b0 : decide ((rd l1 x21_1) ≤ x9_1) = false := decide_eq_false c9
        clear c9
        by_cases c10 : (rd l1 x21_1) ≥ (a0.size : Int)
        ·rw [if_pos c10] at H
         have c10b0 : decide ((a0.size : Int) ≤ (rd l1 x21_1)) = true := decide_eq_true c10
         clear c10
         simp only [Option.some.injEq, Prod.mk.injEq] at H
         obtain ⟨rfl, rfl⟩ := H
         have p422 : 0 ≤ (x21_1 : Int) := of_decide_eq_true (by first | (with_reducible assumption) | assumption)
         have q422 : x21_1 < (l1.length : Int) := of_decide_eq_true (by first | (with_reducible assumption) | assumption)
         obtain ⟨ad422, e422, hx422_0⟩ := Kd.at_int HR1.out x21_1 p422 q422
         cases e422
         replace hx422_0 := (HB.out.cell (World.block_lt_of_cell? w _ hx422_0)).trans hx422_0
         replace p422 := eq_true p422
         replace q422 := eq_true q422
         go_wp2
         go_ret2
         exact ⟨by first | rfl | (simp [errW_none, errW_some] <;> rfl) | (simp [*, errW_none, errW_some] <;> rfl), by repeat (first | (with_reducible first | exact HB.out | apply below_alloc | apply pw_below_drewN | apply below_drew1) | exact HB.out)⟩
        ·rw [if_neg c10] at H
         have c10b0 : decide ((a0.size : Int) ≤ (rd l1 x21_1)) = false := decide_eq_false c10
         clear c10
         by_cases c11 : 0 ≤ x9_1
         ·rw [if_pos c11] at H
          have c11b0 := eq_true c11
          have c11b1 : decide (0 ≤ x9_1) = true := decide_eq_true c11
          clear c11
          by_cases c12 : x9_1 ≤ (rd l1 x21_1)
          ·rw [if_pos c12] at H
           have c12b0 := eq_true c12
           have c12b1 : decide (x9_1 ≤ (rd l1 x21_1)) = true := decide_eq_true c12
           clear c12
           by_cases c13 : (rd l1 x21_1) ≤ (a0.size : Int)
           ·rw [if_pos c13] at H
            have c13b0 := eq_true c13
            have c13b1 : decide ((rd l1 x21_1) ≤ (a0.size : Int)) = true := decide_eq_true c13
            clear c13
            obtain ⟨sj14, hsj14⟩ : ∃ j_ : ByteArray, (a0.extract (x9_1 : Int).toNat ((rd l1 x21_1) : Int).toNat) = j_ := ⟨_, rfl⟩
            replace H : (if sj14.size + 1 ≤ 9223372036854775807 then (if x8_1.size + (sj14 ++ (⟨#[45]⟩ : ByteArray)).size ≤ 9223372036854775807 then (hyphen_Show.l0 k1 a0 (x8_1 ++ (sj14 ++ (⟨#[45]⟩ : ByteArray))) (rd l1 x21_1) l1 (l1.length : Int) (wrap64 (x21_1 + 1))) else (none)) else (none)) = some (r1, r2) := by first | (rw [hsj14] at H; exact H) | (simp only [hsj14] at H ⊢; exact H) | exact H
            by_cases c15 : sj14.size + 1 ≤ 9223372036854775807
            ·rw [if_pos c15] at H
             have c15b0 := eq_true c15
             have c15b1 : decide (sj14.size + 1 ≤ 9223372036854775807) = true := decide_eq_true c15
             try have c15b2 : (9223372036854775807 < sj14.size + 1) = False := eq_false (Nat.not_lt.2 c15)
             try (have c15y := c15; simp only [ByteArray.size_append, ByteArray.size_extract, bs0, bs1, bs2, bs3, bs4, bs5, bs6, bs7, bs8, bs9, bs10, bs11, bs12, bs13, bs14, bs15, bs16, bs17, bs18, bs19, bs20, bs21, bs22, bs23, bs24, bs25, bs26, bs27, bs28, bs29, bs30, bs31, bs32] at c15y; replace c15y := eq_false (Nat.not_lt.2 c15y))
             obtain ⟨sj16, hsj16⟩ : ∃ j_ : ByteArray, (sj14 ++ (⟨#[45]⟩ : ByteArray)) = j_ := ⟨_, rfl⟩
             replace H : (if x8_1.size + sj16.size ≤ 9223372036854775807 then (hyphen_Show.l0 k1 a0 (x8_1 ++ sj16) (rd l1 x21_1) l1 (l1.length : Int) (wrap64 (x21_1 + 1))) else (none)) = some (r1, r2) := by first | (rw [hsj16] at H; exact H) | (simp only [hsj16] at H ⊢; exact H) | exact H
             by_cases c17 : x8_1.size + sj16.size ≤ 9223372036854775807
             ·rw [if_pos c17] at H
              have c17b0 := eq_true c17
              have c17b1 : decide (x8_1.size + sj16.size ≤ 9223372036854775807) = true := decide_eq_true c17
              try have c17b2 : (9223372036854775807 < x8_1.size + sj16.size) = False := eq_false (Nat.not_lt.2 c17)
              try (have c17y := c17; simp only [ByteArray.size_append, ByteArray.size_extract, bs0, bs1, bs2, bs3, bs4, bs5, bs6, bs7, bs8, bs9, bs10, bs11, bs12, bs13, bs14, bs15, bs16, bs17, bs18, bs19, bs20, bs21, bs22, bs23, bs24, bs25, bs26, bs27, bs28, bs29, bs30, bs31, bs32] at c17y; replace c17y := eq_false (Nat.not_lt.2 c17y))
              obtain ⟨sj18, hsj18⟩ : ∃ j_ : ByteArray, (x8_1 ++ sj16) = j_ := ⟨_, rfl⟩
              replace H : (hyphen_Show.l0 k1 a0 sj18 (rd l1 x21_1) l1 (l1.length : Int) (wrap64 (x21_1 + 1))) = some (r1, r2) := by first | (rw [hsj18] at H; exact H) | (simp only [hsj18] at H ⊢; exact H) | exact H
              have H' := Aside0.mk H
              clear H
              have p422 : 0 ≤ (x21_1 : Int) := of_decide_eq_true (by first | (with_reducible assumption) | assumption)
              have q422 : x21_1 < (l1.length : Int) := of_decide_eq_true (by first | (with_reducible assumption) | assumption)
              obtain ⟨ad422, e422, hx422_0⟩ := Kd.at_int HR1.out x21_1 p422 q422
              cases e422
              replace hx422_0 := (HB.out.cell (World.block_lt_of_cell? w _ hx422_0)).trans hx422_0
              replace p422 := eq_true p422
              replace q422 := eq_true q422
              go_wp2
              go_roundg k1
              case measure => have := HK1.out; omega
              case rel => exact ⟨(sj18), (rd l1 x21_1), (wrap64 (x21_1 + 1)), (by first | rfl | (simp; done) | (simp only [← hsj18] <;> (first | rfl | simp)) | (simp [*]; done)), (by first | rfl | (simp; done) | (simp [*]; done)), (by first | rfl | (simp; done) | (simp [*]; done)), H', ⟨by have := HK1.out; omega⟩, ⟨by repeat (first | (with_reducible first | exact HB.out | apply below_alloc | apply pw_below_drewN | apply below_drew1) | exact HB.out)⟩⟩
             ·rw [if_neg c17] at H
              exact absurd H (by simp)
            ·rw [if_neg c15] at H
             exact absurd H (by simp)
           ·rw [if_neg c13] at H
            exact absurd H (by simp)
          ·rw [if_neg c12] at H
           exact absurd H (by simp)
         ·rw [if_neg c11] at H
          exact absurd H (by simp)
      ·rw [if_neg c8] at H
       exact absurd H (by simp)
     ·rw [if_neg c7] at H
      exact absurd H (by simp)
    ·rw [if_neg c6] at H
     have c6b0 : decide (x21_1 < (l1.length : Int)) = false := decide_eq_false c6
     clear c6
     by_cases c19 : 0 ≤ x9_1
     ·rw [if_pos c19] at H
      have c19b0 := eq_true c19
      have c19b1 : decide (0 ≤ x9_1) = true := decide_eq_true c19
      clear c19
      by_cases c20 : x9_1 ≤ (a0.size : Int)
      ·rw [if_pos c20] at H
       have c20b0 := eq_true c20
       have c20b1 : decide (x9_1 ≤ (a0.size : Int)) = true := decide_eq_true c20
       clear c20
       obtain ⟨sj21, hsj21⟩ : ∃ j_ : ByteArray, (a0.extract (x9_1 : Int).toNat a0.size) = j_ := ⟨_, rfl⟩
       replace H : (if x8_1.size + sj21.size ≤ 9223372036854775807 then (some ((x8_1 ++ sj21), 0)) else (none)) = some (r1, r2) := by first | (rw [hsj21] at H; exact H) | (simp only [hsj21] at H ⊢; exact H) | exact H
       by_cases c22 : x8_1.size + sj21.size ≤ 9223372036854775807
       ·rw [if_pos c22] at H
        have c22b0 := eq_true c22
        have c22b1 : decide (x8_1.size + sj21.size ≤ 9223372036854775807) = true := decide_eq_true c22
        try have c22b2 : (9223372036854775807 < x8_1.size + sj21.size) = False := eq_false (Nat.not_lt.2 c22)
        try (have c22y := c22; simp only [ByteArray.size_append, ByteArray.size_extract, bs0, bs1, bs2, bs3, bs4, bs5, bs6, bs7, bs8, bs9, bs10, bs11, bs12, bs13, bs14, bs15, bs16, bs17, bs18, bs19, bs20, bs21, bs22, bs23, bs24, bs25, bs26, bs27, bs28, bs29, bs30, bs31, bs32] at c22y; replace c22y := eq_false (Nat.not_lt.2 c22y))
        obtain ⟨sj23, hsj23⟩ : ∃ j_ : ByteArray, (x8_1 ++ sj21) = j_ := ⟨_, rfl⟩
        replace H : (some (sj23, 0)) = some (r1, r2) := by first | (rw [hsj23] at H; exact H) | (simp only [hsj23] at H ⊢; exact H) | exact H
        simp only [Option.some.injEq, Prod.mk.injEq] at H
        obtain ⟨rfl, rfl⟩ := H
        go_wp2
        go_ret2
        exact ⟨by first | rfl | (simp [errW_none, errW_some] <;> rfl) | (simp only [← hsj21, ← hsj23]; first | rfl | (simp [errW_none, errW_some] <;> rfl)) | (simp [*, errW_none, errW_some] <;> rfl), by repeat (first | (with_reducible first | exact HB.out | apply below_alloc | apply pw_below_drewN | apply below_drew1) | exact HB.out)⟩
       ·rw [if_neg c22] at H
        exact absurd H (by simp)
      ·rw [if_neg c20] at H
       exact absurd H (by simp)
     ·rw [if_neg c19] at H
      exact absurd H (by simp)
 ·replace c4 := Bool.eq_false_iff.mpr c4
  subst c4
  have H1 : (some ((⟨#[]⟩ : ByteArray), 1)) = some (r1, r2) := by rw [if_neg (show ¬ (false = true) by decide)] at H; exact H
  clear H
  have H := H1
  clear H1
  simp only [Option.some.injEq, Prod.mk.injEq] at H
  obtain ⟨rfl, rfl⟩ := H
  go_enter Tryd.func24, Tryd.ntmps24
  go_wp2_with (first | ((with_reducible refine gate_callee (f := 31) rfl ?_); refine goesL_ (some 14) rfl rfl Tryd.func31 (by kernel_rfl) rfl #[.string a0] rfl (by (try simp only [List.map_toArray, List.map_cons, List.map_nil]); first | done | rfl | (simp only [List.length_drop, List.length_take]; rfl)) ?_; (with_reducible refine (hyphen_low.calls a0 t420 false _ A3.out).mono ?_); rintro e w24 ⟨rfl, hb⟩; refine ⟨_, rfl, ?_⟩; have n0_ := Aside0.mk (below_step (by repeat (first | (with_reducible first | exact HB.out | apply below_alloc | apply pw_below_drewN | apply below_drew1) | exact HB.out)) hb); clear HB; have HB := n0_; clear n0_; (try clear hb); (try clear hb2); (try clear hk); (try clear hi)))
  go_ret2
  exact ⟨by first | rfl | (simp [errW_none, errW_some] <;> rfl) | (simp [*, errW_none, errW_some] <;> rfl), by repeat (first | (with_reducible first | exact HB.out | apply below_alloc | apply pw_below_drewN | apply below_drew1) | exact HB.out)⟩

end Go.Proofs.YtmjglgbkigjfkaaDoor.Xa
