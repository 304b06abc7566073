-- YtmjglgbkigjfkaaDoorXa: written by wip/xprint.py of this repo, which drives the kit's print; not trusted: Lean checks it
import Derived.Test.YtmjglgbkigjfkaaDoorYa0
namespace Go.Proofs.YtmjglgbkigjfkaaDoor.Xa
open Go.RowKit Go.Proofs.YtmjglgbkigjfkaaDoorW.PrintWords Go.Proofs.YtmjglgbkigjfkaaDoorW.PrintLast Go.Proofs.YtmjglgbkigjfkaaDoorW.PrintMore
attribute [local go_sem] max2_int min2_int max_two min_two max_three min_three max_four min_four   -- for this text's walks alone
open Go.Proofs.YtmjglgbkigjfkaaDoor
set_option linter.unusedVariables false
set_option linter.unusedSimpArgs false

/-! ### hyphen_values: function 32 -/
mutual
def hyphen_values.l0 : Nat → ByteArray → ByteArray → List Int → List (S64) → Int → Int → Option (List Int)
 | 0, _, _, _, _, _, _ => none
 | k + 1, x0, x5, x6, x19, x20, x21 => if x21 < x20 then (if 0 ≤ x21 then (if x21 < (x19.length : Int) then (hyphen_values.l1 k x0 x5 x6 0 x19 x20 x21 ((rd_T64 x19 x21).f0) ((rd_T64 x19 x21).f1)) else (none)) else (none)) else (if 1 ≤ (wrap64 ((x0.size : Int) + 2)) then (if (wrap64 ((x0.size : Int) + 2)) ≤ (x6.length : Int) then (some ((x6.take ((wrap64 ((x0.size : Int) + 2)) : Int).toNat).drop 1)) else (none)) else (none))
def hyphen_values.l1 : Nat → ByteArray → ByteArray → List Int → Int → List (S64) → Int → Int → ByteArray → List Int → Option (List Int)
 | 0, _, _, _, _, _, _, _, _, _ => none
 | k + 1, x0, x5, x6, x9, x19, x20, x21, x156000, x156001 => if (wrap64 (x9 + (x156000.size : Int))) ≤ (x5.size : Int) then (if 0 ≤ x9 then (if x9 ≤ (wrap64 (x9 + (x156000.size : Int))) then (if (x5.extract (x9 : Int).toNat ((wrap64 (x9 + (x156000.size : Int))) : Int).toNat).toList = x156000.toList then (hyphen_values.l2 k x0 x5 x6 x9 x19 x20 x21 x156001 (x156001.length : Int) 0 x156000 x156001) else (hyphen_values.l1 k x0 x5 x6 (wrap64 (x9 + 1)) x19 x20 x21 x156000 x156001)) else (none)) else (none)) else (hyphen_values.l0 k x0 x5 x6 x19 x20 (wrap64 (x21 + 1)))
def hyphen_values.l2 : Nat → ByteArray → ByteArray → List Int → Int → List (S64) → Int → Int → List Int → Int → Int → ByteArray → List Int → Option (List Int)
 | 0, _, _, _, _, _, _, _, _, _, _, _, _ => none
 | k + 1, x0, x5, x6, x9, x19, x20, x21, x47, x48, x49, x156000, x156001 => if x49 < x48 then (if 0 ≤ x49 then (if x49 < (x47.length : Int) then (if 0 ≤ (wrap64 (x9 + x49)) then (if (wrap64 (x9 + x49)) < (x6.length : Int) then (hyphen_values.l2 k x0 x5 (x6.set ((wrap64 (x9 + x49)) : Int).toNat (mx (rd x6 (wrap64 (x9 + x49))) (rd x47 x49))) x9 x19 x20 x21 x47 x48 (wrap64 (x49 + 1)) x156000 x156001) else (none)) else (none)) else (none)) else (none)) else (hyphen_values.l1 k x0 x5 x6 (wrap64 (x9 + 1)) x19 x20 x21 x156000 x156001)
end
def hyphen_values.f (k : Nat) (a0 : ByteArray) (l1 : List (S64)) : Option (List Int) := if 1 + a0.size ≤ 9223372036854775807 then (if ((⟨#[46]⟩ : ByteArray) ++ a0).size + 1 ≤ 9223372036854775807 then (if 0 ≤ (wrap64 (((((⟨#[46]⟩ : ByteArray) ++ a0) ++ (⟨#[46]⟩ : ByteArray)).size : Int) + 1)) then (if (wrap64 (((((⟨#[46]⟩ : ByteArray) ++ a0) ++ (⟨#[46]⟩ : ByteArray)).size : Int) + 1) : Int).toNat ≤ 35184372088832 then (hyphen_values.l0 k a0 (((⟨#[46]⟩ : ByteArray) ++ a0) ++ (⟨#[46]⟩ : ByteArray)) (List.replicate (wrap64 (((((⟨#[46]⟩ : ByteArray) ++ a0) ++ (⟨#[46]⟩ : ByteArray)).size : Int) + 1) : Int).toNat 0) l1 (l1.length : Int) 0) else (none)) else (none)) else (none)) else (none)
theorem hyphen_values.mono_l : ∀ k, (∀ y0 y1 y2 y3 y4 y5, LeO (hyphen_values.l0 k y0 y1 y2 y3 y4 y5) (hyphen_values.l0 (k + 1) y0 y1 y2 y3 y4 y5)) ∧ (∀ y0 y1 y2 y3 y4 y5 y6 y7 y8, LeO (hyphen_values.l1 k y0 y1 y2 y3 y4 y5 y6 y7 y8) (hyphen_values.l1 (k + 1) y0 y1 y2 y3 y4 y5 y6 y7 y8)) ∧ (∀ y0 y1 y2 y3 y4 y5 y6 y7 y8 y9 y10 y11, LeO (hyphen_values.l2 k y0 y1 y2 y3 y4 y5 y6 y7 y8 y9 y10 y11) (hyphen_values.l2 (k + 1) y0 y1 y2 y3 y4 y5 y6 y7 y8 y9 y10 y11))
 | 0 => ⟨fun _ _ _ _ _ _ r h => by simp [hyphen_values.l0] at h, fun _ _ _ _ _ _ _ _ _ r h => by simp [hyphen_values.l1] at h, fun _ _ _ _ _ _ _ _ _ _ _ _ r h => by simp [hyphen_values.l2] at h⟩
 | k + 1 => by
  obtain ⟨ih0, ih1, ih2⟩ := hyphen_values.mono_l k
  refine ⟨?_, ?_, ?_⟩
  ·intro y0 y1 y2 y3 y4 y5
   unfold hyphen_values.l0
   repeat' first
   | (with_reducible exact ih0 _ _ _ _ _ _)
   | (with_reducible exact ih1 _ _ _ _ _ _ _ _ _)
   | (with_reducible exact ih2 _ _ _ _ _ _ _ _ _ _ _ _)
   | (with_reducible exact LeO.refl _)
   | (with_reducible exact LeO.none _)
   | (with_reducible refine LeO.ite ?_ ?_)
   | (with_reducible refine LeO.bind ?_ (fun _ => ?_))
   | exact ih0 _ _ _ _ _ _
   | exact ih1 _ _ _ _ _ _ _ _ _
   | exact ih2 _ _ _ _ _ _ _ _ _ _ _ _
   | exact LeO.none _
   | refine LeO.ite ?_ ?_
   | refine LeO.bind ?_ (fun _ => ?_)
  ·intro y0 y1 y2 y3 y4 y5 y6 y7 y8
   unfold hyphen_values.l1
   repeat' first
   | (with_reducible exact ih0 _ _ _ _ _ _)
   | (with_reducible exact ih1 _ _ _ _ _ _ _ _ _)
   | (with_reducible exact ih2 _ _ _ _ _ _ _ _ _ _ _ _)
   | (with_reducible exact LeO.refl _)
   | (with_reducible exact LeO.none _)
   | (with_reducible refine LeO.ite ?_ ?_)
   | (with_reducible refine LeO.bind ?_ (fun _ => ?_))
   | exact ih0 _ _ _ _ _ _
   | exact ih1 _ _ _ _ _ _ _ _ _
   | exact ih2 _ _ _ _ _ _ _ _ _ _ _ _
   | exact LeO.none _
   | refine LeO.ite ?_ ?_
   | refine LeO.bind ?_ (fun _ => ?_)
  ·intro y0 y1 y2 y3 y4 y5 y6 y7 y8 y9 y10 y11
   unfold hyphen_values.l2
   repeat' first
   | (with_reducible exact ih0 _ _ _ _ _ _)
   | (with_reducible exact ih1 _ _ _ _ _ _ _ _ _)
   | (with_reducible exact ih2 _ _ _ _ _ _ _ _ _ _ _ _)
   | (with_reducible exact LeO.refl _)
   | (with_reducible exact LeO.none _)
   | (with_reducible refine LeO.ite ?_ ?_)
   | (with_reducible refine LeO.bind ?_ (fun _ => ?_))
   | exact ih0 _ _ _ _ _ _
   | exact ih1 _ _ _ _ _ _ _ _ _
   | exact ih2 _ _ _ _ _ _ _ _ _ _ _ _
   | exact LeO.none _
   | refine LeO.ite ?_ ?_
   | refine LeO.bind ?_ (fun _ => ?_)
theorem hyphen_values.mono : ∀ a0 a1 k, LeO (hyphen_values.f k a0 a1) (hyphen_values.f (k + 1) a0 a1) := by
 intro a0 a1 k
 obtain ⟨ih0, ih1, ih2⟩ := hyphen_values.mono_l k
 unfold hyphen_values.f
 repeat' first
   | (with_reducible exact ih0 _ _ _ _ _ _)
   | (with_reducible exact ih1 _ _ _ _ _ _ _ _ _)
   | (with_reducible exact ih2 _ _ _ _ _ _ _ _ _ _ _ _)
   | (with_reducible exact LeO.refl _)
   | (with_reducible exact LeO.none _)
   | (with_reducible refine LeO.ite ?_ ?_)
   | (with_reducible refine LeO.bind ?_ (fun _ => ?_))
   | exact ih0 _ _ _ _ _ _
   | exact ih1 _ _ _ _ _ _ _ _ _
   | exact ih2 _ _ _ _ _ _ _ _ _ _ _ _
   | exact LeO.none _
   | refine LeO.ite ?_ ?_
   | refine LeO.bind ?_ (fun _ => ?_)
set_option maxHeartbeats 8000000 in
set_option maxRecDepth 100000 in
theorem hyphen_values.calls (k : Nat) (a0 : ByteArray) (A1 : Option Addr) (c1 : Nat) (l1 : List (S64)) (r : List Int) (w : World) (hr1 : Kd.C k64 w A1 l1.length l1) (hc1 : l1.length ≤ c1) (h : hyphen_values.f k a0 l1 = some r) :
  Calls Tryd.prog 32 #[.string a0, .slice A1 l1.length c1] w fun e w' => ∃ v0_ : Value, e = .returned (v0_) ∧ Kd.Q (Kd.int .i64) 3 w' w.heap.size (fun _ => True) v0_ r ∧ Below w.heap.size w w' := by
 have hu64 := Tryd.underlying64
 have HR1 := Aside0.mk hr1
 have HC1 := Aside0.mk hc1
 clear hr1 hc1
 have HB := Aside0.mk (Below.refl w.heap.size w)
 have H : (if 1 + a0.size ≤ 9223372036854775807 then (if ((⟨#[46]⟩ : ByteArray) ++ a0).size + 1 ≤ 9223372036854775807 then (if 0 ≤ (wrap64 (((((⟨#[46]⟩ : ByteArray) ++ a0) ++ (⟨#[46]⟩ : ByteArray)).size : Int) + 1)) then (if (wrap64 (((((⟨#[46]⟩ : ByteArray) ++ a0) ++ (⟨#[46]⟩ : ByteArray)).size : Int) + 1) : Int).toNat ≤ 35184372088832 then (hyphen_values.l0 k a0 (((⟨#[46]⟩ : ByteArray) ++ a0) ++ (⟨#[46]⟩ : ByteArray)) (List.replicate (wrap64 (((((⟨#[46]⟩ : ByteArray) ++ a0) ++ (⟨#[46]⟩ : ByteArray)).size : Int) + 1) : Int).toNat 0) l1 (l1.length : Int) 0) else (none)) else (none)) else (none)) else (none)) = some r := h
 clear h
 by_cases c3 : 1 + a0.size ≤ 9223372036854775807
 ·rw [if_pos c3] at H
  have c3b0 := eq_true c3
  have c3b1 : decide (1 + a0.size ≤ 9223372036854775807) = true := decide_eq_true c3
  try have c3b2 : (9223372036854775807 < 1 + a0.size) = False := eq_false (Nat.not_lt.2 c3)
  try (have c3y := c3; simp only [ByteArray.size_append, ByteArray.size_extract, bs0, bs1, bs2, bs3, bs4, bs5, bs6, bs7, bs8, bs9, bs10, bs11, bs12, bs13, bs14, bs15, bs16, bs17, bs18, bs19, bs20, bs21, bs22, bs23, bs24, bs25, bs26, bs27, bs28, bs29, bs30, bs31, bs32] at c3y; replace c3y := eq_false (Nat.not_lt.2 c3y))
  obtain ⟨sj4, hsj4⟩ : ∃ j_ : ByteArray, ((⟨#[46]⟩ : ByteArray) ++ a0) = j_ := ⟨_, rfl⟩
  replace H : (if sj4.size + 1 ≤ 9223372036854775807 then (if 0 ≤ (wrap64 (((sj4 ++ (⟨#[46]⟩ : ByteArray)).size : Int) + 1)) then (if (wrap64 (((sj4 ++ (⟨#[46]⟩ : ByteArray)).size : Int) + 1) : Int).toNat ≤ 35184372088832 then (hyphen_values.l0 k a0 (sj4 ++ (⟨#[46]⟩ : ByteArray)) (List.replicate (wrap64 (((sj4 ++ (⟨#[46]⟩ : ByteArray)).size : Int) + 1) : Int).toNat 0) l1 (l1.length : Int) 0) else (none)) else (none)) else (none)) = some r := by first | (rw [hsj4] at H; exact H) | (simp only [hsj4] at H ⊢; exact H) | exact H
  by_cases c5 : sj4.size + 1 ≤ 9223372036854775807
  ·rw [if_pos c5] at H
   have c5b0 := eq_true c5
   have c5b1 : decide (sj4.size + 1 ≤ 9223372036854775807) = true := decide_eq_true c5
   try have c5b2 : (9223372036854775807 < sj4.size + 1) = False := eq_false (Nat.not_lt.2 c5)
   try (have c5y := c5; simp only [ByteArray.size_append, ByteArray.size_extract, bs0, bs1, bs2, bs3, bs4, bs5, bs6, bs7, bs8, bs9, bs10, bs11, bs12, bs13, bs14, bs15, bs16, bs17, bs18, bs19, bs20, bs21, bs22, bs23, bs24, bs25, bs26, bs27, bs28, bs29, bs30, bs31, bs32] at c5y; replace c5y := eq_false (Nat.not_lt.2 c5y))
   obtain ⟨sj6, hsj6⟩ : ∃ j_ : ByteArray, (sj4 ++ (⟨#[46]⟩ : ByteArray)) = j_ := ⟨_, rfl⟩
   replace H : (if 0 ≤ (wrap64 ((sj6.size : Int) + 1)) then (if (wrap64 ((sj6.size : Int) + 1) : Int).toNat ≤ 35184372088832 then (hyphen_values.l0 k a0 sj6 (List.replicate (wrap64 ((sj6.size : Int) + 1) : Int).toNat 0) l1 (l1.length : Int) 0) else (none)) else (none)) = some r := by first | (rw [hsj6] at H; exact H) | (simp only [hsj6] at H ⊢; exact H) | exact H
   obtain ⟨ji7, hji7⟩ : ∃ j_ : Int, (wrap64 ((sj6.size : Int) + 1)) = j_ := ⟨_, rfl⟩
   replace H : (if 0 ≤ (ji7) then (if (ji7 : Int).toNat ≤ 35184372088832 then (hyphen_values.l0 k a0 sj6 (List.replicate (ji7 : Int).toNat 0) l1 (l1.length : Int) 0) else (none)) else (none)) = some r := by first | (rw [hji7] at H; exact H) | (simp only [hji7] at H ⊢; exact H)
   have hji7w : (IntKind.i64.wrap ((sj6.size : Int) + 1)) = ji7 := (i64_w _).trans hji7
   by_cases c8 : 0 ≤ (ji7)
   ·rw [if_pos c8] at H
    have c8b0 := eq_true c8
    have c8b1 : decide (0 ≤ (ji7)) = true := decide_eq_true c8
    clear c8
    by_cases c9 : (ji7 : Int).toNat ≤ 35184372088832
    ·rw [if_pos c9] at H
     have c9b0 := eq_true c9
     have c9b1 : decide ((ji7 : Int).toNat ≤ 35184372088832) = true := decide_eq_true c9
     clear c9
     obtain ⟨y148, hy148⟩ : ∃ y_ : List Int, y_ = (List.replicate (ji7 : Int).toNat 0) := ⟨_, rfl⟩
     replace H : (hyphen_values.l0 k a0 sj6 y148 l1 (l1.length : Int) 0) = some r := by first | (rw [hy148]; with_reducible exact H) | (have H2_ := (Option.bind_some _ _).symm.trans H; rw [hy148]; with_reducible exact H2_) | (have H2_ := (Option.bind_some _ _).symm.trans H; with_reducible exact H2_) | with_reducible exact H | (rw [hy148]; exact H) | exact H
     have Ny148 := Aside0.mk hy148
     clear hy148
     have H' := Aside0.mk H
     clear H
     go_enter Tryd.func32, Tryd.ntmps32
     go_wp2_with (first | ((with_reducible refine gate_dst (N := 18) rfl ?_); refine Kd.R_make (Kd.int .i64) _ 3 rfl (N := 18) rfl 22 _ _ rfl ji7 rfl rfl Tryd.underlying22 (.int .i64 0) 8 info3 rfl (by decide) (by omega) 0 (ok := fun _ => True) (okp := fun _ => True) rfl (fun _ hk => hk) trivial (of_decide_eq_true (by first | (with_reducible assumption) | assumption)) (Nat.le_trans (Nat.mul_le_mul_right _ (of_decide_eq_true (by first | (with_reducible assumption) | assumption) : ji7.toNat ≤ 35184372088832)) (by omega)) (Below.refl _ _) (Nat.le_refl _) ?_; intro v149 w10 ho11 hb hg_ hnew_; clear hg_ hnew_; (first | rw [← Ny148.out] at ho11 | (simp only [Int.reduceToNat] at ho11; rw [← Ny148.out] at ho11)); have n0_ := Aside0.mk (Kd.R_lower ho11 (below_size (by repeat (first | (with_reducible first | exact HB.out | apply below_alloc | apply pw_below_drewN | apply below_drew1) | exact HB.out)))); have n1_ := Aside0.mk (below_step (by repeat (first | (with_reducible first | exact HB.out | apply below_alloc | apply pw_below_drewN | apply below_drew1) | exact HB.out)) hb); clear HB; have HO150 := n0_; have HB := n1_; clear n0_ n1_; clear hb ho11))
     repeat (go_quiet (first | ((with_reducible refine gate_dst (N := 18) rfl ?_); refine Kd.R_make (Kd.int .i64) _ 3 rfl (N := 18) rfl 22 _ _ rfl ji7 rfl rfl Tryd.underlying22 (.int .i64 0) 8 info3 rfl (by decide) (by omega) 0 (ok := fun _ => True) (okp := fun _ => True) rfl (fun _ hk => hk) trivial (of_decide_eq_true (by first | (with_reducible assumption) | assumption)) (Nat.le_trans (Nat.mul_le_mul_right _ (of_decide_eq_true (by first | (with_reducible assumption) | assumption) : ji7.toNat ≤ 35184372088832)) (by omega)) (Below.refl _ _) (Nat.le_refl _) ?_; intro v149 w10 ho11 hb hg_ hnew_; clear hg_ hnew_; (first | rw [← Ny148.out] at ho11 | (simp only [Int.reduceToNat] at ho11; rw [← Ny148.out] at ho11)); have n0_ := Aside0.mk (Kd.R_lower ho11 (below_size (by repeat (first | (with_reducible first | exact HB.out | apply below_alloc | apply pw_below_drewN | apply below_drew1) | exact HB.out)))); have n1_ := Aside0.mk (below_step (by repeat (first | (with_reducible first | exact HB.out | apply below_alloc | apply pw_below_drewN | apply below_drew1) | exact HB.out)) hb); clear HB; have HO150 := n0_; have HB := n1_; clear n0_ n1_; clear hb ho11)); try go_wp2_with (first | ((with_reducible refine gate_dst (N := 18) rfl ?_); refine Kd.R_make (Kd.int .i64) _ 3 rfl (N := 18) rfl 22 _ _ rfl ji7 rfl rfl Tryd.underlying22 (.int .i64 0) 8 info3 rfl (by decide) (by omega) 0 (ok := fun _ => True) (okp := fun _ => True) rfl (fun _ hk => hk) trivial (of_decide_eq_true (by first | (with_reducible assumption) | assumption)) (Nat.le_trans (Nat.mul_le_mul_right _ (of_decide_eq_true (by first | (with_reducible assumption) | assumption) : ji7.toNat ≤ 35184372088832)) (by omega)) (Below.refl _ _) (Nat.le_refl _) ?_; intro v149 w10 ho11 hb hg_ hnew_; clear hg_ hnew_; (first | rw [← Ny148.out] at ho11 | (simp only [Int.reduceToNat] at ho11; rw [← Ny148.out] at ho11)); have n0_ := Aside0.mk (Kd.R_lower ho11 (below_size (by repeat (first | (with_reducible first | exact HB.out | apply below_alloc | apply pw_below_drewN | apply below_drew1) | exact HB.out)))); have n1_ := Aside0.mk (below_step (by repeat (first | (with_reducible first | exact HB.out | apply below_alloc | apply pw_below_drewN | apply below_drew1) | exact HB.out)) hb); clear HB; have HO150 := n0_; have HB := n1_; clear n0_ n1_; clear hb ho11)))
     go_loopg [21] k (fun kq v21 w' => ∃ (x6_1 : List Int) (x21_1 : Int), v21 = .int .i64 x21_1 ∧ Aside0 (hyphen_values.l0 kq a0 sj6 x6_1 l1 (l1.length : Int) x21_1 = some r) ∧ Aside0 (kq ≤ k) ∧ Aside0 (Kd.R (Kd.int .i64) 3 w' w.heap.size (fun _ => True) v149 x6_1) ∧ Aside0 (Below w.heap.size w w'))
     case atStart => exact ⟨(y148), (0), (by first | rfl | (simp; done) | (simp [*]; done)), H', ⟨Nat.le_refl _⟩, ⟨by (with_reducible repeat (first | apply Kd.R_alloc | apply Kd.R_drewN | apply Kd.R_drew)); exact HO150.out⟩, ⟨by repeat (first | (with_reducible first | exact HB.out | apply below_alloc | apply pw_below_drewN | apply below_drew1) | exact HB.out)⟩⟩
     case round =>
      clear H'
      try clear c1
      try clear p2
      try clear c3
      try clear c3b0
      try clear c3b1
      try clear c3b2
      try clear c5
      try clear c5b0
      try clear c5b1
      try clear c5b2
      try clear p6
      try clear c8
      try clear c8b0
      try clear c8b1
      try clear c9
      try clear c9b0
      try clear c9b1
      obtain ⟨x6_1, x21_1, rfl, HA, HK1, HO_6, HB⟩ := hrel
      cases gk with
      | zero => exact absurd HA.out (by simp [hyphen_values.l0])
      | succ k1 =>
       have H := HA.out
       clear HA
       simp only [hyphen_values.l0] at H
       by_cases c12 : x21_1 < (l1.length : Int)
       ·rw [if_pos c12] at H
        have c12b0 : decide (x21_1 < (l1.length : Int)) = true := decide_eq_true c12
        clear c12
        by_cases c13 : 0 ≤ x21_1
        ·rw [if_pos c13] at H
         have c13b0 : decide (0 ≤ x21_1) = true := decide_eq_true c13
         clear c13
         by_cases c14 : x21_1 < (l1.length : Int)
         ·rw [if_pos c14] at H
          have c14b0 : decide (x21_1 < (l1.length : Int)) = true := decide_eq_true c14
          clear c14
          have H' := Aside0.mk H
          clear H
          have p154 : 0 ≤ (x21_1 : Int) := of_decide_eq_true (by first | (with_reducible assumption) | assumption)
          have q154 : x21_1 < (l1.length : Int) := of_decide_eq_true (by first | (with_reducible assumption) | assumption)
          obtain ⟨ad154, A154_1, c154_1, e154, hx154_0, hx154_1, hl154_1, hi154_1⟩ := at_T64 HR1.out x21_1 p154 q154
          cases e154
          replace hx154_0 := (HB.out.cell (World.block_lt_of_cell? w _ hx154_0)).trans hx154_0
          replace hx154_1 := (HB.out.cell (World.block_lt_of_cell? w _ hx154_1)).trans hx154_1
          have HR154_1 := Aside0.mk hi154_1
          have HC154_1 := Aside0.mk hl154_1
          clear hi154_1 hl154_1
          replace p154 := eq_true p154
          replace q154 := eq_true q154
          go_wp2_with (first | ((with_reducible refine gate_dst (N := 8) rfl ?_); refine box_event ?hg (N := 8) ?hd (cs := #[.string (⟨#[]⟩ : ByteArray), .slice none 0 0]) (t := 64) ?hr ?_; (case hd => rfl); (case hg => rfl); (case hr => first | (go_simp; done) | (go_simp; rfl)); intro gb155 hg w15 hbox hb; have n0_ := Aside0.mk (Kd.R_below (by (with_reducible repeat (first | apply Kd.R_alloc | apply Kd.R_drewN | apply Kd.R_drew)); exact HO_6.out) hb); have n1_ := Aside0.mk (below_step (by repeat (first | (with_reducible first | exact HB.out | apply below_alloc | apply pw_below_drewN | apply below_drew1) | exact HB.out)) hb); have n2_ := Aside0.mk (hbox); have n3_ := Aside0.mk ((by rw [hg]; exact (below_size (by repeat (first | (with_reducible first | exact HB.out | apply below_alloc | apply pw_below_drewN | apply below_drew1) | exact HB.out))) : w.heap.size ≤ gb155)); have n4_ := Aside0.mk ((by rw [hg]; exact (below_size (by repeat (first | (with_reducible first | exact HB.out | apply below_alloc | apply pw_below_drewN | apply below_drew1) | exact HB.out))) : w.heap.size ≤ gb155)); clear HO_6; clear HB; have HO_6 := n0_; have HB := n1_; have BK155 := n2_; have GW155 := n3_; have GE155 := n4_; clear n0_ n1_ n2_ n3_ n4_; clear hb hbox hg; have hcz16_0 : w15.cell? ⟨gb155, 0, none⟩ = some (.string (⟨#[]⟩ : ByteArray)) := (blk_cell BK155.out 0).trans rfl; have hcz16_1 : w15.cell? ⟨gb155, 1, none⟩ = some (.slice none 0 0) := (blk_cell BK155.out 1).trans rfl; have hfz16_0 := blk_frozen BK155.out 0; have hfz16_1 := blk_frozen BK155.out 1))
          repeat (go_quiet (first | ((with_reducible refine gate_dst (N := 8) rfl ?_); refine box_event ?hg (N := 8) ?hd (cs := #[.string (⟨#[]⟩ : ByteArray), .slice none 0 0]) (t := 64) ?hr ?_; (case hd => rfl); (case hg => rfl); (case hr => first | (go_simp; done) | (go_simp; rfl)); intro gb155 hg w15 hbox hb; have n0_ := Aside0.mk (Kd.R_below (by (with_reducible repeat (first | apply Kd.R_alloc | apply Kd.R_drewN | apply Kd.R_drew)); exact HO_6.out) hb); have n1_ := Aside0.mk (below_step (by repeat (first | (with_reducible first | exact HB.out | apply below_alloc | apply pw_below_drewN | apply below_drew1) | exact HB.out)) hb); have n2_ := Aside0.mk (hbox); have n3_ := Aside0.mk ((by rw [hg]; exact (below_size (by repeat (first | (with_reducible first | exact HB.out | apply below_alloc | apply pw_below_drewN | apply below_drew1) | exact HB.out))) : w.heap.size ≤ gb155)); have n4_ := Aside0.mk ((by rw [hg]; exact (below_size (by repeat (first | (with_reducible first | exact HB.out | apply below_alloc | apply pw_below_drewN | apply below_drew1) | exact HB.out))) : w.heap.size ≤ gb155)); clear HO_6; clear HB; have HO_6 := n0_; have HB := n1_; have BK155 := n2_; have GW155 := n3_; have GE155 := n4_; clear n0_ n1_ n2_ n3_ n4_; clear hb hbox hg; have hcz16_0 : w15.cell? ⟨gb155, 0, none⟩ = some (.string (⟨#[]⟩ : ByteArray)) := (blk_cell BK155.out 0).trans rfl; have hcz16_1 : w15.cell? ⟨gb155, 1, none⟩ = some (.slice none 0 0) := (blk_cell BK155.out 1).trans rfl; have hfz16_0 := blk_frozen BK155.out 0; have hfz16_1 := blk_frozen BK155.out 1)); try go_wp2_with (first | ((with_reducible refine gate_dst (N := 8) rfl ?_); refine box_event ?hg (N := 8) ?hd (cs := #[.string (⟨#[]⟩ : ByteArray), .slice none 0 0]) (t := 64) ?hr ?_; (case hd => rfl); (case hg => rfl); (case hr => first | (go_simp; done) | (go_simp; rfl)); intro gb155 hg w15 hbox hb; have n0_ := Aside0.mk (Kd.R_below (by (with_reducible repeat (first | apply Kd.R_alloc | apply Kd.R_drewN | apply Kd.R_drew)); exact HO_6.out) hb); have n1_ := Aside0.mk (below_step (by repeat (first | (with_reducible first | exact HB.out | apply below_alloc | apply pw_below_drewN | apply below_drew1) | exact HB.out)) hb); have n2_ := Aside0.mk (hbox); have n3_ := Aside0.mk ((by rw [hg]; exact (below_size (by repeat (first | (with_reducible first | exact HB.out | apply below_alloc | apply pw_below_drewN | apply below_drew1) | exact HB.out))) : w.heap.size ≤ gb155)); have n4_ := Aside0.mk ((by rw [hg]; exact (below_size (by repeat (first | (with_reducible first | exact HB.out | apply below_alloc | apply pw_below_drewN | apply below_drew1) | exact HB.out))) : w.heap.size ≤ gb155)); clear HO_6; clear HB; have HO_6 := n0_; have HB := n1_; have BK155 := n2_; have GW155 := n3_; have GE155 := n4_; clear n0_ n1_ n2_ n3_ n4_; clear hb hbox hg; have hcz16_0 : w15.cell? ⟨gb155, 0, none⟩ = some (.string (⟨#[]⟩ : ByteArray)) := (blk_cell BK155.out 0).trans rfl; have hcz16_1 : w15.cell? ⟨gb155, 1, none⟩ = some (.slice none 0 0) := (blk_cell BK155.out 1).trans rfl; have hfz16_0 := blk_frozen BK155.out 0; have hfz16_1 := blk_frozen BK155.out 1)))
          go_loopg [9] k1 (fun kq v9 w' => ∃ (x6_2 : List Int) (x9_2 : Int), v9 = .int .i64 x9_2 ∧ Aside0 (hyphen_values.l1 kq a0 sj6 x6_2 x9_2 l1 (l1.length : Int) x21_1 ((rd_T64 l1 x21_1).f0) ((rd_T64 l1 x21_1).f1) = some r) ∧ Aside0 (kq ≤ k1) ∧ Aside0 (Kd.R (Kd.int .i64) 3 w' w.heap.size (fun _ => True) v149 x6_2) ∧ Aside0 (w'.heap[gb155]? = some (.cells #[.string ((rd_T64 l1 x21_1).f0), (.slice A154_1 ((rd_T64 l1 x21_1).f1).length c154_1)] 64 (0, 0))) ∧ Aside0 (Below w.heap.size w w'))
          case atStart => exact ⟨(x6_1), (0), (by first | rfl | (simp; done) | (simp [*]; done)), H', ⟨Nat.le_refl _⟩, ⟨by (with_reducible repeat (first | apply Kd.R_alloc | apply Kd.R_drewN | apply Kd.R_drew)); exact Kd.R_mono (Kd.R_far (p := ⟨gb155, 1, none⟩) (Kd.R_far (p := ⟨gb155, 0, none⟩) (Kd.R_types HO_6.out BK155.out (by decide)) (fun _ hk => hk.2) (.string ((rd_T64 l1 x21_1).f0))) (fun _ hk => hk.2) (.slice A154_1 ((rd_T64 l1 x21_1).f1).length c154_1)) (fun _ hk => trivial)⟩, ⟨by (with_reducible repeat (first | refine blk_drewN ?_ _ | refine blk_drew ?_ | refine blk_alloc ?_ _)); refine blk_put (cs := #[.string ((rd_T64 l1 x21_1).f0), .slice none 0 0]) ?_ 1 _ rfl; (with_reducible repeat (first | refine blk_drewN ?_ _ | refine blk_drew ?_ | refine blk_alloc ?_ _)); refine blk_put (cs := #[.string (⟨#[]⟩ : ByteArray), .slice none 0 0]) ?_ 0 _ rfl; (with_reducible repeat (first | refine blk_drewN ?_ _ | refine blk_drew ?_ | refine blk_alloc ?_ _)); exact BK155.out⟩, ⟨by repeat (first | (with_reducible first | exact HB.out | apply below_alloc | apply pw_below_drewN | apply below_drew1 | refine below_set ?_ GE155.out) | exact HB.out)⟩⟩
          case round =>
           clear H'
           try clear c1
           try clear p1
           try clear q1
           try clear hx1
           try clear p2
           try clear c3
           try clear c3b0
           try clear c3b1
           try clear c3b2
           try clear c5
           try clear c5b0
           try clear c5b1
           try clear c5b2
           try clear p6
           try clear c8
           try clear c8b0
           try clear c8b1
           try clear c9
           try clear c9b0
           try clear c9b1
           try clear c12
           try clear c12b0
           try clear c13
           try clear c13b0
           try clear c14
           try clear c14b0
           try clear c15
           try clear p15
           try clear q15
           try clear hx15
           try clear hcz16_0
           try clear hcz16_1
           try clear hfz16_0
           try clear hfz16_1
           try clear hx154_0
           try clear hx154_1
           try clear p154
           try clear p2
           try clear p6
           try clear q154
           obtain ⟨x6_2, x9_2, rfl, HA, HK2, HO_6, BK155, HB⟩ := hrel
           cases gk with
           | zero => exact absurd HA.out (by simp [hyphen_values.l1])
           | succ k2 =>
            have H := HA.out
            clear HA
            simp only [hyphen_values.l1] at H
            by_cases c17 : (wrap64 (x9_2 + (((rd_T64 l1 x21_1).f0).size : Int))) ≤ (sj6.size : Int)
            ·rw [if_pos c17] at H
             have c17b0 : decide ((wrap64 (x9_2 + (((rd_T64 l1 x21_1).f0).size : Int))) ≤ (sj6.size : Int)) = true := decide_eq_true c17
             clear c17
             by_cases c18 : 0 ≤ x9_2
             ·rw [if_pos c18] at H
              have c18b0 := eq_true c18
              have c18b1 : decide (0 ≤ x9_2) = true := decide_eq_true c18
              clear c18
              by_cases c19 : x9_2 ≤ (wrap64 (x9_2 + (((rd_T64 l1 x21_1).f0).size : Int)))
              ·rw [if_pos c19] at H
               have c19b0 := eq_true c19
               have c19b1 : decide (x9_2 ≤ (wrap64 (x9_2 + (((rd_T64 l1 x21_1).f0).size : Int)))) = true := decide_eq_true c19
               have c20b0 := eq_true (of_decide_eq_true (by first | (with_reducible assumption) | assumption) : (wrap64 (x9_2 + (((rd_T64 l1 x21_1).f0).size : Int))) ≤ (sj6.size : Int))
               obtain ⟨sj21, hsj21⟩ : ∃ j_ : ByteArray, (sj6.extract (x9_2 : Int).toNat ((wrap64 (x9_2 + (((rd_T64 l1 x21_1).f0).size : Int))) : Int).toNat) = j_ := ⟨_, rfl⟩
               replace H : (if sj21.toList = ((rd_T64 l1 x21_1).f0).toList then (hyphen_values.l2 k2 a0 sj6 x6_2 x9_2 l1 (l1.length : Int) x21_1 ((rd_T64 l1 x21_1).f1) (((rd_T64 l1 x21_1).f1).length : Int) 0 ((rd_T64 l1 x21_1).f0) ((rd_T64 l1 x21_1).f1)) else (hyphen_values.l1 k2 a0 sj6 x6_2 (wrap64 (x9_2 + 1)) l1 (l1.length : Int) x21_1 ((rd_T64 l1 x21_1).f0) ((rd_T64 l1 x21_1).f1))) = some r := by first | (rw [hsj21] at H; exact H) | (simp only [hsj21] at H ⊢; exact H) | exact H
               by_cases c22 : sj21.toList = ((rd_T64 l1 x21_1).f0).toList
               ·rw [if_pos c22] at H
                have c22b0 : (sj21.toList == ((rd_T64 l1 x21_1).f0).toList) = true := beq_iff_eq.mpr c22
                have c22b1 : (sj21.toList != ((rd_T64 l1 x21_1).f0).toList) = false := bne_eq_false_iff_eq.mpr c22
                clear c22
                have H' := Aside0.mk H
                clear H
                have hcz23_0 : wr.cell? ⟨gb155, 0, none⟩ = some (.string ((rd_T64 l1 x21_1).f0)) := (blk_cell BK155.out 0).trans rfl
                have hcz23_1 : wr.cell? ⟨gb155, 1, none⟩ = some (.slice A154_1 ((rd_T64 l1 x21_1).f1).length c154_1) := (blk_cell BK155.out 1).trans rfl
                have hfz23_0 := blk_frozen BK155.out 0
                have hfz23_1 := blk_frozen BK155.out 1
                go_wp2
                repeat (go_quiet (fail); try go_wp2)
                go_loopg [49] k2 (fun kq v49 w' => ∃ (x6_3 : List Int) (x49_3 : Int), v49 = .int .i64 x49_3 ∧ Aside0 (hyphen_values.l2 kq a0 sj6 x6_3 x9_2 l1 (l1.length : Int) x21_1 ((rd_T64 l1 x21_1).f1) (((rd_T64 l1 x21_1).f1).length : Int) x49_3 ((rd_T64 l1 x21_1).f0) ((rd_T64 l1 x21_1).f1) = some r) ∧ Aside0 (kq ≤ k2) ∧ Aside0 (Kd.R (Kd.int .i64) 3 w' w.heap.size (fun _ => True) v149 x6_3) ∧ Aside0 (w'.heap[gb155]? = some (.cells #[.string ((rd_T64 l1 x21_1).f0), (.slice A154_1 ((rd_T64 l1 x21_1).f1).length c154_1)] 64 (0, 0))) ∧ Aside0 (Below w.heap.size w w'))
                case atStart => exact ⟨(x6_2), (0), (by first | rfl | (simp; done) | (simp [*]; done)), H', ⟨Nat.le_refl _⟩, ⟨by (with_reducible repeat (first | apply Kd.R_alloc | apply Kd.R_drewN | apply Kd.R_drew)); exact HO_6.out⟩, ⟨by (with_reducible repeat (first | refine blk_drewN ?_ _ | refine blk_drew ?_ | refine blk_alloc ?_ _)); exact BK155.out⟩, ⟨by repeat (first | (with_reducible first | exact HB.out | apply below_alloc | apply pw_below_drewN | apply below_drew1 | refine below_set ?_ GE155.out) | exact HB.out)⟩⟩
                case round =>
                 clear H'
                 try clear c1
                 try clear p1
                 try clear q1
                 try clear hx1
                 try clear c2
                 try clear p2
                 try clear c3
                 try clear c3b0
                 try clear c3b1
                 try clear c3b2
                 try clear c5
                 try clear c5b0
                 try clear c5b1
                 try clear c5b2
                 try clear p6
                 try clear c8
                 try clear c8b0
                 try clear c8b1
                 try clear c9
                 try clear c9b0
                 try clear c9b1
                 try clear c12
                 try clear c12b0
                 try clear c13
                 try clear c13b0
                 try clear c14
                 try clear c14b0
                 try clear c15
                 try clear p15
                 try clear q15
                 try clear hx15
                 try clear c17
                 try clear c17b0
                 try clear c18
                 try clear c18b0
                 try clear c18b1
                 try clear c19
                 try clear c19b0
                 try clear c19b1
                 try clear c20
                 try clear c20b0
                 try clear c22
                 try clear c22b0
                 try clear c22b1
                 try clear hcz16_0
                 try clear hcz16_1
                 try clear hcz23_0
                 try clear hcz23_1
                 try clear hfz16_0
                 try clear hfz16_1
                 try clear hfz23_0
                 try clear hfz23_1
                 try clear hx154_0
                 try clear hx154_1
                 try clear p1
                 try clear p15
                 try clear p154
                 try clear p2
                 try clear p6
                 try clear q1
                 try clear q15
                 try clear q154
                 obtain ⟨x6_3, x49_3, rfl, HA, HK3, HO_6, BK155, HB⟩ := hrel
                 cases gk with
                 | zero => exact absurd HA.out (by simp [hyphen_values.l2])
                 | succ k3 =>
                  have H := HA.out
                  clear HA
                  simp only [hyphen_values.l2] at H
                  by_cases c24 : x49_3 < (((rd_T64 l1 x21_1).f1).length : Int)
                  ·rw [if_pos c24] at H
                   have c24b0 : decide (x49_3 < (((rd_T64 l1 x21_1).f1).length : Int)) = true := decide_eq_true c24
                   clear c24
                   by_cases c25 : 0 ≤ x49_3
                   ·rw [if_pos c25] at H
                    have c25b0 : decide (0 ≤ x49_3) = true := decide_eq_true c25
                    clear c25
                    by_cases c26 : x49_3 < (((rd_T64 l1 x21_1).f1).length : Int)
                    ·rw [if_pos c26] at H
                     have c26b0 : decide (x49_3 < (((rd_T64 l1 x21_1).f1).length : Int)) = true := decide_eq_true c26
                     clear c26
                     obtain ⟨ji27, hji27⟩ : ∃ j_ : Int, (wrap64 (x9_2 + x49_3)) = j_ := ⟨_, rfl⟩
                     replace H : (if 0 ≤ (ji27) then (if (ji27) < (x6_3.length : Int) then (hyphen_values.l2 k3 a0 sj6 (x6_3.set ((ji27) : Int).toNat (mx (rd x6_3 (ji27)) (rd ((rd_T64 l1 x21_1).f1) x49_3))) x9_2 l1 (l1.length : Int) x21_1 ((rd_T64 l1 x21_1).f1) (((rd_T64 l1 x21_1).f1).length : Int) (wrap64 (x49_3 + 1)) ((rd_T64 l1 x21_1).f0) ((rd_T64 l1 x21_1).f1)) else (none)) else (none)) = some r := by first | (rw [hji27] at H; exact H) | (simp only [hji27] at H ⊢; exact H)
                     have hji27w : (IntKind.i64.wrap (x9_2 + x49_3)) = ji27 := (i64_w _).trans hji27
                     by_cases c28 : 0 ≤ (ji27)
                     ·rw [if_pos c28] at H
                      have c28b0 : decide (0 ≤ (ji27)) = true := decide_eq_true c28
                      clear c28
                      by_cases c29 : (ji27) < (x6_3.length : Int)
                      ·rw [if_pos c29] at H
                       have c29b0 : decide ((ji27) < (x6_3.length : Int)) = true := decide_eq_true c29
                       clear c29
                       obtain ⟨ji30, hji30⟩ : ∃ j_ : Int, (mx (rd x6_3 (ji27)) (rd ((rd_T64 l1 x21_1).f1) x49_3)) = j_ := ⟨_, rfl⟩
                       replace H : (hyphen_values.l2 k3 a0 sj6 (x6_3.set ((ji27) : Int).toNat (ji30)) x9_2 l1 (l1.length : Int) x21_1 ((rd_T64 l1 x21_1).f1) (((rd_T64 l1 x21_1).f1).length : Int) (wrap64 (x49_3 + 1)) ((rd_T64 l1 x21_1).f0) ((rd_T64 l1 x21_1).f1)) = some r := by first | (rw [hji30] at H; exact H) | (simp only [hji30] at H ⊢; exact H)
                       have hji30_ : (if (rd x6_3 (ji27)) < (rd ((rd_T64 l1 x21_1).f1) x49_3) then (rd ((rd_T64 l1 x21_1).f1) x49_3) else (rd x6_3 (ji27))) = ji30 := hji30
                       obtain ⟨y158, hy158⟩ : ∃ y_ : List Int, y_ = (x6_3.set ((ji27) : Int).toNat (ji30)) := ⟨_, rfl⟩
                       replace H : (hyphen_values.l2 k3 a0 sj6 y158 x9_2 l1 (l1.length : Int) x21_1 ((rd_T64 l1 x21_1).f1) (((rd_T64 l1 x21_1).f1).length : Int) (wrap64 (x49_3 + 1)) ((rd_T64 l1 x21_1).f0) ((rd_T64 l1 x21_1).f1)) = some r := by first | (rw [hy158]; with_reducible exact H) | (have H2_ := (Option.bind_some _ _).symm.trans H; rw [hy158]; with_reducible exact H2_) | (have H2_ := (Option.bind_some _ _).symm.trans H; with_reducible exact H2_) | with_reducible exact H | (rw [hy158]; exact H) | exact H
                       have Ny158 := Aside0.mk hy158
                       clear hy158
                       have H' := Aside0.mk H
                       clear H
                       have p156 : 0 ≤ (x49_3 : Int) := of_decide_eq_true (by first | (with_reducible assumption) | assumption)
                       have q156 : x49_3 < (((rd_T64 l1 x21_1).f1).length : Int) := of_decide_eq_true (by first | (with_reducible assumption) | assumption)
                       obtain ⟨ad156, e156, hx156_0⟩ := Kd.at_int HR154_1.out x49_3 p156 q156
                       cases e156
                       replace hx156_0 := (HB.out.cell (World.block_lt_of_cell? w _ hx156_0)).trans hx156_0
                       replace p156 := eq_true p156
                       replace q156 := eq_true q156
                       obtain ⟨Ao32, co32, eo32⟩ := Kd.R_slice HO_6.out
                       subst eo32
                       have p157 : 0 ≤ ((ji27) : Int) := of_decide_eq_true (by first | (with_reducible assumption) | assumption)
                       have q157 : (ji27) < (x6_3.length : Int) := of_decide_eq_true (by first | (with_reducible assumption) | assumption)
                       obtain ⟨ad157, e157, hx157_0⟩ := Kd.at_int (Kd.R_reads' HO_6.out).2.2 (ji27) p157 q157
                       cases e157
                       replace p157 := eq_true p157
                       replace q157 := eq_true q157
                       have p31 : 0 ≤ ((ji27) : Int) := of_decide_eq_true (by first | (with_reducible assumption) | assumption)
                       have q31 : ((ji27) : Int) < ((x6_3.length : Int) : Int) := of_decide_eq_true (by first | (with_reducible assumption) | assumption)
                       obtain ⟨go31, co31, eo31, gb31, gl31, cl31, HG31⟩ := Kd.R_form HO_6.out (by omega)
                       (first | cases eo31 | (injection eo31 with ea_ en_ ec_; (first | subst ea_ | (injection ea_ with ea_; subst ea_)); subst ec_; clear en_))
                       have GB31 := Aside0.mk gb31
                       have GG31 := Aside0.mk HG31
                       clear gb31 gl31 HG31
                       (first | simp only [add_plain] at hx157_0 | skip)
                       obtain ⟨hx31_0, hf31_0⟩ := Kd.R_celln 0 HO_6.out ((ji27) : Int) p31 q31
                       replace p31 := eq_true p31
                       replace q31 := eq_true q31
                       have HP33 := Kd.R_putg HO_6.out ((ji27) : Int) ji30
                       go_wp2_with (first | ((with_reducible refine gate_store (t := 3) (p := 66) rfl ?_); (try (rw [drewN_self wr]; generalize hq_ : World.drewN wr _ = wr; have n0_ := Aside0.mk (Kd.R_at hq_ HO_6.out); have n1_ := Aside0.mk (blk_at hq_ BK155.out); have n2_ := Aside0.mk (below_at hq_ HB.out); clear hq_ HO_6 BK155 HB; have HO_6 := n0_; have BK155 := n1_; have HB := n2_; clear n0_ n1_ n2_; (try (have HP33 := Kd.R_putg HO_6.out ((ji27) : Int) ji30)))); refine store_event (t := 3) (p := 66) (v := ?vo_w34) (w1 := (wr.setCell ⟨go31, ((ji27) : Int).toNat, none⟩ (.int .i64 ji30))) ?hg ?ho ?hn ?hr ?_; (case ho => rfl); (case hg => rfl); (case hn => rfl); (case hr => first | (go_simp; done) | (go_simp; rfl)); intro w34 hw; have hg : wr.grownBy w34 (some go31) := (by rw [hw]; exact HP33.2); have hp_ : Kd.R (Kd.int .i64) 3 w34 w.heap.size (fun _ => True) (.slice (some ⟨go31, 0, none⟩) x6_3.length co32) y158 := (by rw [hw, Ny158.out]; exact HP33.1); clear HP33; have n0_ := Aside0.mk (hp_); have n1_ := Aside0.mk (blk_grown (g := gb155) (o := .cells #[.string ((rd_T64 l1 x21_1).f0), .slice (some ad156) ((rd_T64 l1 x21_1).f1).length c154_1] 64 (0, 0)) (by (with_reducible repeat (first | refine blk_drewN ?_ _ | refine blk_drew ?_ | refine blk_alloc ?_ _)); exact BK155.out) hg (Kd.R_ne HO_6.out BK155.out (by decide))); have n2_ := Aside0.mk ((by rw [hw]; exact below_set (HB.out) GB31.out : Below w.heap.size w w34)); clear HO_6; clear BK155; clear HB; have HO_6 := n0_; have BK155 := n1_; have HB := n2_; clear n0_ n1_ n2_; clear hg hw hp_))
                       repeat (go_quiet (first | ((with_reducible refine gate_store (t := 3) (p := 66) rfl ?_); (try (rw [drewN_self wr]; generalize hq_ : World.drewN wr _ = wr; have n0_ := Aside0.mk (Kd.R_at hq_ HO_6.out); have n1_ := Aside0.mk (blk_at hq_ BK155.out); have n2_ := Aside0.mk (below_at hq_ HB.out); clear hq_ HO_6 BK155 HB; have HO_6 := n0_; have BK155 := n1_; have HB := n2_; clear n0_ n1_ n2_; (try (have HP33 := Kd.R_putg HO_6.out ((ji27) : Int) ji30)))); refine store_event (t := 3) (p := 66) (v := ?vo_w34) (w1 := (wr.setCell ⟨go31, ((ji27) : Int).toNat, none⟩ (.int .i64 ji30))) ?hg ?ho ?hn ?hr ?_; (case ho => rfl); (case hg => rfl); (case hn => rfl); (case hr => first | (go_simp; done) | (go_simp; rfl)); intro w34 hw; have hg : wr.grownBy w34 (some go31) := (by rw [hw]; exact HP33.2); have hp_ : Kd.R (Kd.int .i64) 3 w34 w.heap.size (fun _ => True) (.slice (some ⟨go31, 0, none⟩) x6_3.length co32) y158 := (by rw [hw, Ny158.out]; exact HP33.1); clear HP33; have n0_ := Aside0.mk (hp_); have n1_ := Aside0.mk (blk_grown (g := gb155) (o := .cells #[.string ((rd_T64 l1 x21_1).f0), .slice (some ad156) ((rd_T64 l1 x21_1).f1).length c154_1] 64 (0, 0)) (by (with_reducible repeat (first | refine blk_drewN ?_ _ | refine blk_drew ?_ | refine blk_alloc ?_ _)); exact BK155.out) hg (Kd.R_ne HO_6.out BK155.out (by decide))); have n2_ := Aside0.mk ((by rw [hw]; exact below_set (HB.out) GB31.out : Below w.heap.size w w34)); clear HO_6; clear BK155; clear HB; have HO_6 := n0_; have BK155 := n1_; have HB := n2_; clear n0_ n1_ n2_; clear hg hw hp_)); try go_wp2_with (first | ((with_reducible refine gate_store (t := 3) (p := 66) rfl ?_); (try (rw [drewN_self wr]; generalize hq_ : World.drewN wr _ = wr; have n0_ := Aside0.mk (Kd.R_at hq_ HO_6.out); have n1_ := Aside0.mk (blk_at hq_ BK155.out); have n2_ := Aside0.mk (below_at hq_ HB.out); clear hq_ HO_6 BK155 HB; have HO_6 := n0_; have BK155 := n1_; have HB := n2_; clear n0_ n1_ n2_; (try (have HP33 := Kd.R_putg HO_6.out ((ji27) : Int) ji30)))); refine store_event (t := 3) (p := 66) (v := ?vo_w34) (w1 := (wr.setCell ⟨go31, ((ji27) : Int).toNat, none⟩ (.int .i64 ji30))) ?hg ?ho ?hn ?hr ?_; (case ho => rfl); (case hg => rfl); (case hn => rfl); (case hr => first | (go_simp; done) | (go_simp; rfl)); intro w34 hw; have hg : wr.grownBy w34 (some go31) := (by rw [hw]; exact HP33.2); have hp_ : Kd.R (Kd.int .i64) 3 w34 w.heap.size (fun _ => True) (.slice (some ⟨go31, 0, none⟩) x6_3.length co32) y158 := (by rw [hw, Ny158.out]; exact HP33.1); clear HP33; have n0_ := Aside0.mk (hp_); have n1_ := Aside0.mk (blk_grown (g := gb155) (o := .cells #[.string ((rd_T64 l1 x21_1).f0), .slice (some ad156) ((rd_T64 l1 x21_1).f1).length c154_1] 64 (0, 0)) (by (with_reducible repeat (first | refine blk_drewN ?_ _ | refine blk_drew ?_ | refine blk_alloc ?_ _)); exact BK155.out) hg (Kd.R_ne HO_6.out BK155.out (by decide))); have n2_ := Aside0.mk ((by rw [hw]; exact below_set (HB.out) GB31.out : Below w.heap.size w w34)); clear HO_6; clear BK155; clear HB; have HO_6 := n0_; have BK155 := n1_; have HB := n2_; clear n0_ n1_ n2_; clear hg hw hp_)))
                       go_roundg k3
                       case measure => have := HK1.out; have := HK2.out; have := HK3.out; omega
                       case rel => exact ⟨(y158), (wrap64 (x49_3 + 1)), (by first | rfl | (simp; done) | (simp [*]; done)), H', ⟨by have := HK1.out; have := HK2.out; have := HK3.out; omega⟩, ⟨by (with_reducible repeat (first | apply Kd.R_alloc | apply Kd.R_drewN | apply Kd.R_drew)); exact HO_6.out⟩, ⟨by (with_reducible repeat (first | refine blk_drewN ?_ _ | refine blk_drew ?_ | refine blk_alloc ?_ _)); exact BK155.out⟩, ⟨by repeat (first | (with_reducible first | exact HB.out | apply below_alloc | apply pw_below_drewN | apply below_drew1 | refine below_set ?_ GE155.out) | exact HB.out)⟩⟩
                      ·rw [if_neg c29] at H
                       exact absurd H (by simp)
                     ·rw [if_neg c28] at H
                      exact absurd H (by simp)
                    ·rw [if_neg c26] at H
                     exact absurd H (by simp)
                   ·rw [if_neg c25] at H
                    exact absurd H (by simp)
                  ·rw [if_neg c24] at H
                   have c24b0 : decide (x49_3 < (((rd_T64 l1 x21_1).f1).length : Int)) = false := decide_eq_false c24
                   clear c24
                   have H' := Aside0.mk H
                   clear H
                   go_wp2
                   repeat (go_quiet (fail); try go_wp2)
                   go_roundg k3
                   case measure => have := HK1.out; have := HK2.out; have := HK3.out; omega
                   case rel => exact ⟨(x6_3), (wrap64 (x9_2 + 1)), (by first | rfl | (simp; done) | (simp [*]; done)), H', ⟨by have := HK1.out; have := HK2.out; have := HK3.out; omega⟩, ⟨by (with_reducible repeat (first | apply Kd.R_alloc | apply Kd.R_drewN | apply Kd.R_drew)); exact HO_6.out⟩, ⟨by (with_reducible repeat (first | refine blk_drewN ?_ _ | refine blk_drew ?_ | refine blk_alloc ?_ _)); exact BK155.out⟩, ⟨by repeat (first | (with_reducible first | exact HB.out | apply below_alloc | apply pw_below_drewN | apply below_drew1 | refine below_set ?_ GE155.out) | exact HB.out)⟩⟩
               ·rw [if_neg c22] at H
                have c22b0 : (sj21.toList == ((rd_T64 l1 x21_1).f0).toList) = false := beq_eq_false_iff_ne.mpr c22
                have c22b1 : (sj21.toList != ((rd_T64 l1 x21_1).f0).toList) = true := bne_iff_ne.mpr c22
                have H' := Aside0.mk H
                clear H
                have hcz35_0 : wr.cell? ⟨gb155, 0, none⟩ = some (.string ((rd_T64 l1 x21_1).f0)) := (blk_cell BK155.out 0).trans rfl
                have hcz35_1 : wr.cell? ⟨gb155, 1, none⟩ = some (.slice A154_1 ((rd_T64 l1 x21_1).f1).length c154_1) := (blk_cell BK155.out 1).trans rfl
                have hfz35_0 := blk_frozen BK155.out 0
                have hfz35_1 := blk_frozen BK155.out 1
                go_wp2
                repeat (go_quiet (fail); try go_wp2)
                go_roundg k2
                case measure => have := HK1.out; have := HK2.out; omega
                case rel => exact ⟨(x6_2), (wrap64 (x9_2 + 1)), (by first | rfl | (simp; done) | (simp [*]; done)), H', ⟨by have := HK1.out; have := HK2.out; omega⟩, ⟨by (with_reducible repeat (first | apply Kd.R_alloc | apply Kd.R_drewN | apply Kd.R_drew)); exact HO_6.out⟩, ⟨by (with_reducible repeat (first | refine blk_drewN ?_ _ | refine blk_drew ?_ | refine blk_alloc ?_ _)); exact BK155.out⟩, ⟨by repeat (first | (with_reducible first | exact HB.out | apply below_alloc | apply pw_below_drewN | apply below_drew1 | refine below_set ?_ GE155.out) | exact HB.out)⟩⟩
              ·rw [if_neg c19] at H
               exact absurd H (by simp)
             ·rw [if_neg c18] at H
              exact absurd H (by simp)
            ·rw [if_neg c17] at H
             have c17b0 : decide ((wrap64 (x9_2 + (((rd_T64 l1 x21_1).f0).size : Int))) ≤ (sj6.size : Int)) = false := decide_eq_false c17
             clear c17
             have H' := Aside0.mk H
             clear H
             have hcz36_0 : wr.cell? ⟨gb155, 0, none⟩ = some (.string ((rd_T64 l1 x21_1).f0)) := (blk_cell BK155.out 0).trans rfl
             have hcz36_1 : wr.cell? ⟨gb155, 1, none⟩ = some (.slice A154_1 ((rd_T64 l1 x21_1).f1).length c154_1) := (blk_cell BK155.out 1).trans rfl
             have hfz36_0 := blk_frozen BK155.out 0
             have hfz36_1 := blk_frozen BK155.out 1
             go_wp2
             repeat (go_quiet (fail); try go_wp2)
             go_roundg k2
             case measure => have := HK1.out; have := HK2.out; omega
             case rel => exact ⟨(x6_2), (wrap64 (x21_1 + 1)), (by first | rfl | (simp; done) | (simp [*]; done)), H', ⟨by have := HK1.out; have := HK2.out; omega⟩, ⟨by (with_reducible repeat (first | apply Kd.R_alloc | apply Kd.R_drewN | apply Kd.R_drew)); exact HO_6.out⟩, ⟨by repeat (first | (with_reducible first | exact HB.out | apply below_alloc | apply pw_below_drewN | apply below_drew1 | refine below_set ?_ GE155.out) | exact HB.out)⟩⟩
         ·rw [if_neg c14] at H
          exact absurd H (by simp)
        ·rw [if_neg c13] at H
         exact absurd H (by simp)
       ·rw [if_neg c12] at H
        have c12b0 : decide (x21_1 < (l1.length : Int)) = false := decide_eq_false c12
        clear c12
        by_cases c37 : 1 ≤ (wrap64 ((a0.size : Int) + 2))
        ·rw [if_pos c37] at H
         have c37b0 := eq_true c37
         have c37b1 : decide (1 ≤ (wrap64 ((a0.size : Int) + 2))) = true := decide_eq_true c37
         by_cases c38 : (wrap64 ((a0.size : Int) + 2)) ≤ (x6_1.length : Int)
         ·rw [if_pos c38] at H
          have c38b0 := eq_true c38
          have c38b1 : decide ((wrap64 ((a0.size : Int) + 2)) ≤ (x6_1.length : Int)) = true := decide_eq_true c38
          obtain ⟨y151, hy151⟩ : ∃ y_ : List Int, y_ = ((x6_1.take ((wrap64 ((a0.size : Int) + 2)) : Int).toNat).drop 1) := ⟨_, rfl⟩
          replace H : (some y151) = some r := by first | (rw [hy151]; with_reducible exact H) | (have H2_ := (Option.bind_some _ _).symm.trans H; rw [hy151]; with_reducible exact H2_) | (have H2_ := (Option.bind_some _ _).symm.trans H; with_reducible exact H2_) | with_reducible exact H | (rw [hy151]; exact H) | exact H
          have Ny151 := Aside0.mk hy151
          clear hy151
          obtain rfl := Option.some.inj H
          obtain ⟨Ao39, co39, eo39⟩ := Kd.R_slice HO_6.out
          subst eo39
          have qa40 := (of_decide_eq_true (by first | (with_reducible assumption) | assumption) : (1 : Int) ≤ ((wrap64 ((a0.size : Int) + 2)) : Int))
          have qb40 := (of_decide_eq_true (by first | (with_reducible assumption) | assumption) : ((wrap64 ((a0.size : Int) + 2)) : Int) ≤ ((x6_1.length : Int) : Int))
          have qc40 : (0 : Int) ≤ (1 : Int) := (by omega)
          obtain ⟨i040, hi040, _, hsz40, _⟩ := info_parts info3
          have hcut40 := cut_midx (P := Tryd.prog) 22 3 .i64 .i64 Tryd.underlying22 hi040 1 hsz40 Ao39 x6_1.length co39 1 (wrap64 ((a0.size : Int) + 2)) qc40 qa40 qb40 (Kd.R_reads' HO_6.out).2.1
          have hr40 := Kd.Q_mid (k := 1) (m := ((wrap64 ((a0.size : Int) + 2)) : Int).toNat) (Kd.Q_of_R HO_6.out) (by omega) (by omega)
          obtain ⟨A40, hA40⟩ : ∃ A1, A1 = (if co39 = 1 then Ao39 else (Ao39 : Option Addr).map (·.add (1 * 1))) := ⟨_, rfl⟩
          obtain ⟨c40, hc40⟩ : ∃ c1, c1 = co39 - 1 := ⟨_, rfl⟩
          have hy40 : y151.length = ((wrap64 ((a0.size : Int) + 2)) : Int).toNat - 1 := (by rw [Ny151.out]; exact len_mid (by omega) (by omega))
          rw [← Ny151.out] at hr40
          (try simp only [Int.reduceToNat] at hcut40)
          rw [← hy40, ← hA40, ← hc40] at hcut40
          replace hr40 : Kd.Q (Kd.int .i64) 3 wr w.heap.size (fun _ => True) (.slice A40 y151.length c40) y151 := (by rw [hA40, hc40, hy40]; exact hr40)
          have HE40 : Aside0 ((Value.slice A40 y151.length c40).ownBlock = (.slice Ao39 x6_1.length co39 : Value).ownBlock) := ⟨by rw [hA40]; split <;> (cases (Ao39 : Option Addr) <;> rfl)⟩
          clear hy40 hi040 hsz40 HO_6 hA40 hc40
          have HO153 := Aside0.mk hr40
          clear hr40
          replace qa40 := eq_true qa40
          replace qb40 := eq_true qb40
          replace qc40 := eq_true qc40
          go_wp2
          repeat (go_quiet (fail); try go_wp2)
          go_ret
          exact ⟨_, by first | rfl | (simp [errW_none, errW_some] <;> rfl) | (simp only [← hsj4, ← hsj6, ← hji7]; first | rfl | (simp [errW_none, errW_some] <;> rfl)) | (simp [*, errW_none, errW_some] <;> rfl), by (with_reducible repeat (first | apply Kd.Q_alloc | apply Kd.Q_drewN | apply Kd.Q_drew)); exact HO153.out, by repeat (first | (with_reducible first | exact HB.out | apply below_alloc | apply pw_below_drewN | apply below_drew1) | exact HB.out)⟩
         ·rw [if_neg c38] at H
          exact absurd H (by simp)
        ·rw [if_neg c37] at H
         exact absurd H (by simp)
    ·rw [if_neg c9] at H
     exact absurd H (by simp)
   ·rw [if_neg c8] at H
    exact absurd H (by simp)
  ·rw [if_neg c5] at H
   exact absurd H (by simp)
 ·rw [if_neg c3] at H
  exact absurd H (by simp)

end Go.Proofs.YtmjglgbkigjfkaaDoor.Xa
