-- YtmjglgbkigjfkaaDoorXa: written by wip/xprint.py of this repo, which drives the kit's print; not trusted: Lean checks it
import Derived.Test.YtmjglgbkigjfkaaDoorYa0
namespace Go.Proofs.YtmjglgbkigjfkaaDoor.Xa
open Go.RowKit Go.Proofs.YtmjglgbkigjfkaaDoorW.PrintWords Go.Proofs.YtmjglgbkigjfkaaDoorW.PrintLast Go.Proofs.YtmjglgbkigjfkaaDoorW.PrintMore
attribute [local go_sem] max2_int min2_int max_two min_two max_three min_three max_four min_four   -- for this text's walks alone
open Go.Proofs.YtmjglgbkigjfkaaDoor
set_option linter.unusedVariables false
set_option linter.unusedSimpArgs false

/-! ### frisketlaw09_patterns: function 11 -/
mutual
def frisketlaw09_patterns.l0 : Nat → List Int → List ByteArray → Int → Option (List ByteArray)
 | 0, _, _, _ => none
 | k + 1, x0, x3, x4 => if x4 < (x0.length : Int) then (frisketlaw09_patterns.j1 k x0 x3 x4 (decide (x4 < 40))) else (frisketlaw09_patterns.j1 k x0 x3 x4 false)
def frisketlaw09_patterns.j1 : Nat → List Int → List ByteArray → Int → Bool → Option (List ByteArray)
 | 0, _, _, _, _ => none
 | k + 1, x0, x3, x4, x17 => if x17 = true then (if 0 ≤ x4 then (if x4 < (x0.length : Int) then (if (Int.tmod (IntKind.u64.wrap (rd x0 x4)) 11) = 0 then (frisketlaw09_patterns.j2 k x0 x3 x4 (IntKind.u64.wrap (rd x0 x4)) (⟨#[46]⟩ : ByteArray)) else (frisketlaw09_patterns.j2 k x0 x3 x4 (IntKind.u64.wrap (rd x0 x4)) (⟨#[]⟩ : ByteArray))) else (none)) else (none)) else (some x3)
def frisketlaw09_patterns.j2 : Nat → List Int → List ByteArray → Int → Int → ByteArray → Option (List ByteArray)
 | 0, _, _, _, _, _ => none
 | k + 1, x0, x3, x4, x5, x6 => frisketlaw09_patterns.l1 k x0 x3 x4 x5 x6 0
def frisketlaw09_patterns.l1 : Nat → List Int → List ByteArray → Int → Int → ByteArray → Int → Option (List ByteArray)
 | 0, _, _, _, _, _, _ => none
 | k + 1, x0, x3, x4, x5, x6, x7 => if x7 < (IntKind.u64.wrap (1 + (Int.tmod x5 4))) then (if (Int.tmod (IntKind.u64.wrap ((Int.tmod (IntKind.u64.wrap (Int.tdiv x5 3)) 7) * (IntKind.u64.wrap (x7 + 1)))) 10) > 0 then ((some (([(IntKind.u64.wrap (48 + (Int.tmod (IntKind.u64.wrap ((Int.tmod (IntKind.u64.wrap (Int.tdiv x5 3)) 7) * (IntKind.u64.wrap (x7 + 1)))) 10))) % 256] : List Int) : List Int)).bind fun y104 => (if x6.size + (strOfNums y104).size ≤ 9223372036854775807 then (if 0 ≤ (Int.tmod (IntKind.u64.wrap ((IntKind.u64.wrap (Int.tdiv x5 7)) + (IntKind.u64.wrap ((IntKind.u64.wrap (x7 * x7)) * 3)))) 12) then (if (Int.tmod (IntKind.u64.wrap ((IntKind.u64.wrap (Int.tdiv x5 7)) + (IntKind.u64.wrap ((IntKind.u64.wrap (x7 * x7)) * 3)))) 12) ≤ (IntKind.u64.wrap ((Int.tmod (IntKind.u64.wrap ((IntKind.u64.wrap (Int.tdiv x5 7)) + (IntKind.u64.wrap ((IntKind.u64.wrap (x7 * x7)) * 3)))) 12) + 1)) then (if (IntKind.u64.wrap ((Int.tmod (IntKind.u64.wrap ((IntKind.u64.wrap (Int.tdiv x5 7)) + (IntKind.u64.wrap ((IntKind.u64.wrap (x7 * x7)) * 3)))) 12) + 1)) ≤ 12 then (if (x6 ++ (strOfNums y104)).size + ((⟨#[97, 98, 100, 101, 105, 108, 110, 111, 114, 115, 116, 117]⟩ : ByteArray).extract ((Int.tmod (IntKind.u64.wrap ((IntKind.u64.wrap (Int.tdiv x5 7)) + (IntKind.u64.wrap ((IntKind.u64.wrap (x7 * x7)) * 3)))) 12) : Int).toNat ((IntKind.u64.wrap ((Int.tmod (IntKind.u64.wrap ((IntKind.u64.wrap (Int.tdiv x5 7)) + (IntKind.u64.wrap ((IntKind.u64.wrap (x7 * x7)) * 3)))) 12) + 1)) : Int).toNat).size ≤ 9223372036854775807 then (frisketlaw09_patterns.l1 k x0 x3 x4 x5 ((x6 ++ (strOfNums y104)) ++ ((⟨#[97, 98, 100, 101, 105, 108, 110, 111, 114, 115, 116, 117]⟩ : ByteArray).extract ((Int.tmod (IntKind.u64.wrap ((IntKind.u64.wrap (Int.tdiv x5 7)) + (IntKind.u64.wrap ((IntKind.u64.wrap (x7 * x7)) * 3)))) 12) : Int).toNat ((IntKind.u64.wrap ((Int.tmod (IntKind.u64.wrap ((IntKind.u64.wrap (Int.tdiv x5 7)) + (IntKind.u64.wrap ((IntKind.u64.wrap (x7 * x7)) * 3)))) 12) + 1)) : Int).toNat)) (IntKind.u64.wrap (x7 + 1))) else (none)) else (none)) else (none)) else (none)) else (none))) else (if 0 ≤ (Int.tmod (IntKind.u64.wrap ((IntKind.u64.wrap (Int.tdiv x5 7)) + (IntKind.u64.wrap ((IntKind.u64.wrap (x7 * x7)) * 3)))) 12) then (if (Int.tmod (IntKind.u64.wrap ((IntKind.u64.wrap (Int.tdiv x5 7)) + (IntKind.u64.wrap ((IntKind.u64.wrap (x7 * x7)) * 3)))) 12) ≤ (IntKind.u64.wrap ((Int.tmod (IntKind.u64.wrap ((IntKind.u64.wrap (Int.tdiv x5 7)) + (IntKind.u64.wrap ((IntKind.u64.wrap (x7 * x7)) * 3)))) 12) + 1)) then (if (IntKind.u64.wrap ((Int.tmod (IntKind.u64.wrap ((IntKind.u64.wrap (Int.tdiv x5 7)) + (IntKind.u64.wrap ((IntKind.u64.wrap (x7 * x7)) * 3)))) 12) + 1)) ≤ 12 then (if x6.size + ((⟨#[97, 98, 100, 101, 105, 108, 110, 111, 114, 115, 116, 117]⟩ : ByteArray).extract ((Int.tmod (IntKind.u64.wrap ((IntKind.u64.wrap (Int.tdiv x5 7)) + (IntKind.u64.wrap ((IntKind.u64.wrap (x7 * x7)) * 3)))) 12) : Int).toNat ((IntKind.u64.wrap ((Int.tmod (IntKind.u64.wrap ((IntKind.u64.wrap (Int.tdiv x5 7)) + (IntKind.u64.wrap ((IntKind.u64.wrap (x7 * x7)) * 3)))) 12) + 1)) : Int).toNat).size ≤ 9223372036854775807 then (frisketlaw09_patterns.l1 k x0 x3 x4 x5 (x6 ++ ((⟨#[97, 98, 100, 101, 105, 108, 110, 111, 114, 115, 116, 117]⟩ : ByteArray).extract ((Int.tmod (IntKind.u64.wrap ((IntKind.u64.wrap (Int.tdiv x5 7)) + (IntKind.u64.wrap ((IntKind.u64.wrap (x7 * x7)) * 3)))) 12) : Int).toNat ((IntKind.u64.wrap ((Int.tmod (IntKind.u64.wrap ((IntKind.u64.wrap (Int.tdiv x5 7)) + (IntKind.u64.wrap ((IntKind.u64.wrap (x7 * x7)) * 3)))) 12) + 1)) : Int).toNat)) (IntKind.u64.wrap (x7 + 1))) else (none)) else (none)) else (none)) else (none))) else (if (Int.tmod x5 13) = 0 then (if x6.size + 1 ≤ 9223372036854775807 then (if x3.length < 8796093022208 then (frisketlaw09_patterns.l0 k x0 (x3 ++ [(x6 ++ (⟨#[46]⟩ : ByteArray))]) (wrap64 (x4 + 1))) else (none)) else (none)) else (if x3.length < 8796093022208 then (frisketlaw09_patterns.l0 k x0 (x3 ++ [x6]) (wrap64 (x4 + 1))) else (none)))
end
def frisketlaw09_patterns.f (k : Nat) (l0 : List Int) : Option (List ByteArray) := frisketlaw09_patterns.l0 k l0 ([] : List ByteArray) 0
theorem frisketlaw09_patterns.mono_l : ∀ k, (∀ y0 y1 y2, LeO (frisketlaw09_patterns.l0 k y0 y1 y2) (frisketlaw09_patterns.l0 (k + 1) y0 y1 y2)) ∧ (∀ y0 y1 y2 y3, LeO (frisketlaw09_patterns.j1 k y0 y1 y2 y3) (frisketlaw09_patterns.j1 (k + 1) y0 y1 y2 y3)) ∧ (∀ y0 y1 y2 y3 y4, LeO (frisketlaw09_patterns.j2 k y0 y1 y2 y3 y4) (frisketlaw09_patterns.j2 (k + 1) y0 y1 y2 y3 y4)) ∧ (∀ y0 y1 y2 y3 y4 y5, LeO (frisketlaw09_patterns.l1 k y0 y1 y2 y3 y4 y5) (frisketlaw09_patterns.l1 (k + 1) y0 y1 y2 y3 y4 y5))
 | 0 => ⟨fun _ _ _ r h => by simp [frisketlaw09_patterns.l0] at h, fun _ _ _ _ r h => by simp [frisketlaw09_patterns.j1] at h, fun _ _ _ _ _ r h => by simp [frisketlaw09_patterns.j2] at h, fun _ _ _ _ _ _ r h => by simp [frisketlaw09_patterns.l1] at h⟩
 | k + 1 => by
  obtain ⟨ih0, ih1, ih2, ih3⟩ := frisketlaw09_patterns.mono_l k
  refine ⟨?_, ?_, ?_, ?_⟩
  ·intro y0 y1 y2
   unfold frisketlaw09_patterns.l0
   repeat' first
   | (with_reducible exact ih0 _ _ _)
   | (with_reducible exact ih1 _ _ _ _)
   | (with_reducible exact ih2 _ _ _ _ _)
   | (with_reducible exact ih3 _ _ _ _ _ _)
   | (with_reducible exact LeO.refl _)
   | (with_reducible exact LeO.none _)
   | (with_reducible refine LeO.ite ?_ ?_)
   | (with_reducible refine LeO.bind ?_ (fun _ => ?_))
   | exact ih0 _ _ _
   | exact ih1 _ _ _ _
   | exact ih2 _ _ _ _ _
   | exact ih3 _ _ _ _ _ _
   | exact LeO.none _
   | refine LeO.ite ?_ ?_
   | refine LeO.bind ?_ (fun _ => ?_)
  ·intro y0 y1 y2 y3
   unfold frisketlaw09_patterns.j1
   repeat' first
   | (with_reducible exact ih0 _ _ _)
   | (with_reducible exact ih1 _ _ _ _)
   | (with_reducible exact ih2 _ _ _ _ _)
   | (with_reducible exact ih3 _ _ _ _ _ _)
   | (with_reducible exact LeO.refl _)
   | (with_reducible exact LeO.none _)
   | (with_reducible refine LeO.ite ?_ ?_)
   | (with_reducible refine LeO.bind ?_ (fun _ => ?_))
   | exact ih0 _ _ _
   | exact ih1 _ _ _ _
   | exact ih2 _ _ _ _ _
   | exact ih3 _ _ _ _ _ _
   | exact LeO.none _
   | refine LeO.ite ?_ ?_
   | refine LeO.bind ?_ (fun _ => ?_)
  ·intro y0 y1 y2 y3 y4
   unfold frisketlaw09_patterns.j2
   repeat' first
   | (with_reducible exact ih0 _ _ _)
   | (with_reducible exact ih1 _ _ _ _)
   | (with_reducible exact ih2 _ _ _ _ _)
   | (with_reducible exact ih3 _ _ _ _ _ _)
   | (with_reducible exact LeO.refl _)
   | (with_reducible exact LeO.none _)
   | (with_reducible refine LeO.ite ?_ ?_)
   | (with_reducible refine LeO.bind ?_ (fun _ => ?_))
   | exact ih0 _ _ _
   | exact ih1 _ _ _ _
   | exact ih2 _ _ _ _ _
   | exact ih3 _ _ _ _ _ _
   | exact LeO.none _
   | refine LeO.ite ?_ ?_
   | refine LeO.bind ?_ (fun _ => ?_)
  ·intro y0 y1 y2 y3 y4 y5
   unfold frisketlaw09_patterns.l1
   repeat' first
   | (with_reducible exact ih0 _ _ _)
   | (with_reducible exact ih1 _ _ _ _)
   | (with_reducible exact ih2 _ _ _ _ _)
   | (with_reducible exact ih3 _ _ _ _ _ _)
   | (with_reducible exact LeO.refl _)
   | (with_reducible exact LeO.none _)
   | (with_reducible refine LeO.ite ?_ ?_)
   | (with_reducible refine LeO.bind ?_ (fun _ => ?_))
   | exact ih0 _ _ _
   | exact ih1 _ _ _ _
   | exact ih2 _ _ _ _ _
   | exact ih3 _ _ _ _ _ _
   | exact LeO.none _
   | refine LeO.ite ?_ ?_
   | refine LeO.bind ?_ (fun _ => ?_)
theorem frisketlaw09_patterns.mono : ∀ a0 k, LeO (frisketlaw09_patterns.f k a0) (frisketlaw09_patterns.f (k + 1) a0) := by
 intro a0 k
 obtain ⟨ih0, ih1, ih2, ih3⟩ := frisketlaw09_patterns.mono_l k
 unfold frisketlaw09_patterns.f
 repeat' first
   | (with_reducible exact ih0 _ _ _)
   | (with_reducible exact ih1 _ _ _ _)
   | (with_reducible exact ih2 _ _ _ _ _)
   | (with_reducible exact ih3 _ _ _ _ _ _)
   | (with_reducible exact LeO.refl _)
   | (with_reducible exact LeO.none _)
   | (with_reducible refine LeO.ite ?_ ?_)
   | (with_reducible refine LeO.bind ?_ (fun _ => ?_))
   | exact ih0 _ _ _
   | exact ih1 _ _ _ _
   | exact ih2 _ _ _ _ _
   | exact ih3 _ _ _ _ _ _
   | exact LeO.none _
   | refine LeO.ite ?_ ?_
   | refine LeO.bind ?_ (fun _ => ?_)
set_option maxHeartbeats 8000000 in
set_option maxRecDepth 100000 in
theorem frisketlaw09_patterns.calls (k : Nat) (A0 : Option Addr) (c0 : Nat) (l0 : List Int) (r : List ByteArray) (w : World) (hr0 : Kd.C (Kd.int .i64) w A0 l0.length l0) (hc0 : l0.length ≤ c0) (h : frisketlaw09_patterns.f k l0 = some r) :
  Calls Tryd.prog 11 #[.slice A0 l0.length c0] w fun e w' => ∃ v0_ : Value, e = .returned (v0_) ∧ Kd.R Kd.string 9 w' w.heap.size (fun _ => True) v0_ r ∧ Below w.heap.size w w' := by
 have HR0 := Aside0.mk hr0
 have HC0 := Aside0.mk hc0
 clear hr0 hc0
 have HB := Aside0.mk (Below.refl w.heap.size w)
 have H : (frisketlaw09_patterns.l0 k l0 ([] : List ByteArray) 0) = some r := h
 clear h
 have H' := Aside0.mk H
 clear H
 go_enter Tryd.func11, Tryd.ntmps11
 go_wp2
 go_loopg [3, 4] k (fun kq v3 v4 w' => ∃ (x3_1 : List ByteArray) (x4_1 : Int), v4 = .int .i64 x4_1 ∧ Aside0 (frisketlaw09_patterns.l0 kq l0 x3_1 x4_1 = some r) ∧ Aside0 (kq ≤ k) ∧ Aside0 (Kd.R Kd.string 9 w' w.heap.size (fun _ => True) v3 x3_1) ∧ Aside0 (Below w.heap.size w w'))
 case atStart => exact ⟨(([] : List ByteArray)), (0), (by first | rfl | (simp; done) | (simp [*]; done)), H', ⟨Nat.le_refl _⟩, ⟨by first | exact Kd.R_nil _ _ _ _ _ | exact Kd.N_nil _ _ _ _ _ | exact Kd.V_nil _ _ _ _ _ | exact Kd.Q_nil _ _ _ _ _ | exact Kd.S_nil _ _ _ _ _⟩, ⟨by repeat (first | (with_reducible first | exact HB.out | apply below_alloc | apply pw_below_drewN | apply below_drew1) | exact HB.out)⟩⟩
 case round =>
  clear H'
  try clear c1
  obtain ⟨x3_1, x4_1, rfl, HA, HK1, HO_3, HB⟩ := hrel
  cases gk with
  | zero => exact absurd HA.out (by simp [frisketlaw09_patterns.l0])
  | succ k1 =>
   have H := HA.out
   clear HA
   simp only [frisketlaw09_patterns.l0] at H
   have HC2 := Aside0.mk H
   clear H
   go_upto_region 3 with (fail)
   go_cut [17] (fun v17 wc => ∃ (kq : Nat) (x17_1 : Bool), v17 = .bool x17_1 ∧ Aside0 (frisketlaw09_patterns.j1 kq l0 x3_1 x4_1 x17_1 = some r) ∧ Aside0 (kq ≤ k1) ∧ Aside0 (Kd.R Kd.string 9 wc w.heap.size (fun _ => True) u3 x3_1) ∧ Aside0 (Below w.heap.size w wc))
   case first =>
    have H := HC2.out
    clear HC2
    by_cases c3 : x4_1 < (l0.length : Int)
    ·rw [if_pos c3] at H
     have c3b0 : decide (x4_1 < (l0.length : Int)) = true := decide_eq_true c3
     clear c3
     (first | rw [c3b0] | (simp only [i64_w, i32_w]; rw [c3b0]) | skip)
     have H' := Aside0.mk H
     clear H
     go_wp2
     go_meet
     case rel => exact ⟨_, (decide (x4_1 < 40)), (by first | rfl | (simp; done) | (simp [*]; done)), H', ⟨by have := HK1.out; first | omega | exact Nat.le_refl _⟩, ⟨by (with_reducible repeat (first | apply Kd.R_alloc | apply Kd.R_drewN | apply Kd.R_drew)); exact HO_3.out⟩, ⟨by repeat (first | (with_reducible first | exact HB.out | apply below_alloc | apply pw_below_drewN | apply below_drew1) | exact HB.out)⟩⟩
    ·rw [if_neg c3] at H
     have c3b0 : decide (x4_1 < (l0.length : Int)) = false := decide_eq_false c3
     clear c3
     (first | rw [c3b0] | (simp only [i64_w, i32_w]; rw [c3b0]) | skip)
     have H' := Aside0.mk H
     clear H
     go_wp2
     go_meet
     case rel => exact ⟨_, (false), (by first | rfl | (simp; done) | (simp [*]; done)), H', ⟨by have := HK1.out; first | omega | exact Nat.le_refl _⟩, ⟨by (with_reducible repeat (first | apply Kd.R_alloc | apply Kd.R_drewN | apply Kd.R_drew)); exact HO_3.out⟩, ⟨by repeat (first | (with_reducible first | exact HB.out | apply below_alloc | apply pw_below_drewN | apply below_drew1) | exact HB.out)⟩⟩
   case rest =>
    clear HC2
    try clear c1
    try clear p2
    try clear c3
    try clear c3b0
    obtain ⟨kq, x17_1, rfl, HA, HJ1, HO_3, HB⟩ := hcut
    cases kq with
    | zero => exact absurd HA.out (by simp [frisketlaw09_patterns.j1])
    | succ kj1 =>
     have H := HA.out
     clear HA
     simp only [frisketlaw09_patterns.j1] at H
     by_cases c4 : x17_1 = true
     ·subst c4
      have H1 : (if 0 ≤ x4_1 then (if x4_1 < (l0.length : Int) then (if (Int.tmod (IntKind.u64.wrap (rd l0 x4_1)) 11) = 0 then (frisketlaw09_patterns.j2 kj1 l0 x3_1 x4_1 (IntKind.u64.wrap (rd l0 x4_1)) (⟨#[46]⟩ : ByteArray)) else (frisketlaw09_patterns.j2 kj1 l0 x3_1 x4_1 (IntKind.u64.wrap (rd l0 x4_1)) (⟨#[]⟩ : ByteArray))) else (none)) else (none)) = some r := by rw [if_pos rfl] at H; exact H
      clear H
      have H := H1
      clear H1
      by_cases c5 : 0 ≤ x4_1
      ·rw [if_pos c5] at H
       have c5b0 : decide (0 ≤ x4_1) = true := decide_eq_true c5
       clear c5
       by_cases c6 : x4_1 < (l0.length : Int)
       ·rw [if_pos c6] at H
        have c6b0 : decide (x4_1 < (l0.length : Int)) = true := decide_eq_true c6
        clear c6
        have HC7 := Aside0.mk H
        clear H
        have p103 : 0 ≤ (x4_1 : Int) := of_decide_eq_true (by first | (with_reducible assumption) | assumption)
        have q103 : x4_1 < (l0.length : Int) := of_decide_eq_true (by first | (with_reducible assumption) | assumption)
        obtain ⟨ad103, e103, hx103_0⟩ := Kd.at_int HR0.out x4_1 p103 q103
        cases e103
        replace hx103_0 := (HB.out.cell (World.block_lt_of_cell? w _ hx103_0)).trans hx103_0
        replace p103 := eq_true p103
        replace q103 := eq_true q103
        go_upto_if 27 with (fail)
        go_cut [6] (fun v6 wc => ∃ (kq : Nat) (x6_6 : ByteArray), v6 = .string x6_6 ∧ Aside0 (frisketlaw09_patterns.j2 kq l0 x3_1 x4_1 (IntKind.u64.wrap (rd l0 x4_1)) x6_6 = some r) ∧ Aside0 (kq ≤ kj1) ∧ Aside0 (Kd.R Kd.string 9 wc w.heap.size (fun _ => True) u3 x3_1) ∧ Aside0 (Below w.heap.size w wc))
        case first =>
         have H := HC7.out
         clear HC7
         by_cases c8 : (Int.tmod (IntKind.u64.wrap (rd l0 x4_1)) 11) = 0
         ·rw [if_pos c8] at H
          have c8b0 : ((Int.tmod (IntKind.u64.wrap (rd l0 x4_1)) 11) == 0) = true := beq_iff_eq.mpr c8
          have c8b1 : ((Int.tmod (IntKind.u64.wrap (rd l0 x4_1)) 11) != 0) = false := bne_eq_false_iff_eq.mpr c8
          clear c8
          (first | rw [c8b0] | (simp only [i64_w, i32_w]; rw [c8b0]) | skip)
          have H' := Aside0.mk H
          clear H
          go_wp2
          go_meet
          case rel => exact ⟨_, ((⟨#[46]⟩ : ByteArray)), (by first | rfl | (simp; done) | (simp [*]; done)), H', ⟨by have := HK1.out; have := HJ1.out; first | omega | exact Nat.le_refl _⟩, ⟨by (with_reducible repeat (first | apply Kd.R_alloc | apply Kd.R_drewN | apply Kd.R_drew)); exact HO_3.out⟩, ⟨by repeat (first | (with_reducible first | exact HB.out | apply below_alloc | apply pw_below_drewN | apply below_drew1) | exact HB.out)⟩⟩
         ·rw [if_neg c8] at H
          have c8b0 : ((Int.tmod (IntKind.u64.wrap (rd l0 x4_1)) 11) == 0) = false := beq_eq_false_iff_ne.mpr c8
          have c8b1 : ((Int.tmod (IntKind.u64.wrap (rd l0 x4_1)) 11) != 0) = true := bne_iff_ne.mpr c8
          (first | rw [c8b0] | (simp only [i64_w, i32_w]; rw [c8b0]) | skip)
          have H' := Aside0.mk H
          clear H
          go_wp2
          go_meet
          case rel => exact ⟨_, ((⟨#[]⟩ : ByteArray)), (by first | rfl | (simp; done) | (simp [*]; done)), H', ⟨by have := HK1.out; have := HJ1.out; first | omega | exact Nat.le_refl _⟩, ⟨by (with_reducible repeat (first | apply Kd.R_alloc | apply Kd.R_drewN | apply Kd.R_drew)); exact HO_3.out⟩, ⟨by repeat (first | (with_reducible first | exact HB.out | apply below_alloc | apply pw_below_drewN | apply below_drew1) | exact HB.out)⟩⟩
        case rest =>
         clear HC7
         try clear c1
         try clear p1
         try clear q1
         try clear hx1
         try clear p2
         try clear c3
         try clear c3b0
         try clear c4
         try clear c5
         try clear c5b0
         try clear c6
         try clear c6b0
         try clear c8
         try clear c8b0
         try clear c8b1
         try clear hx103_0
         try clear p103
         try clear p2
         try clear q103
         obtain ⟨kq, x6_6, rfl, HA, HJ6, HO_3, HB⟩ := hcut
         cases kq with
         | zero => exact absurd HA.out (by simp [frisketlaw09_patterns.j2])
         | succ kj6 =>
          have H := HA.out
          clear HA
          simp only [frisketlaw09_patterns.j2] at H
          have H' := Aside0.mk H
          clear H
          go_wp2
          go_loopg [6, 7] kj6 (fun kq v6 v7 w' => ∃ (x6_4 : ByteArray) (x7_4 : Int), v6 = .string x6_4 ∧ v7 = .int .u64 x7_4 ∧ Aside0 (frisketlaw09_patterns.l1 kq l0 x3_1 x4_1 (IntKind.u64.wrap (rd l0 x4_1)) x6_4 x7_4 = some r) ∧ Aside0 (kq ≤ kj6) ∧ Aside0 (Kd.R Kd.string 9 w' w.heap.size (fun _ => True) u3 x3_1) ∧ Aside0 (Below w.heap.size w w'))
          case atStart => exact ⟨(x6_6), (0), (by first | rfl | (simp; done) | (simp [*]; done)), (by first | rfl | (simp; done) | (simp [*]; done)), H', ⟨Nat.le_refl _⟩, ⟨by (with_reducible repeat (first | apply Kd.R_alloc | apply Kd.R_drewN | apply Kd.R_drew)); exact HO_3.out⟩, ⟨by repeat (first | (with_reducible first | exact HB.out | apply below_alloc | apply pw_below_drewN | apply below_drew1) | exact HB.out)⟩⟩
          case round =>
           clear H'
           try clear c1
           try clear p1
           try clear q1
           try clear hx1
           try clear p2
           try clear c3
           try clear c3b0
           try clear c4
           try clear c5
           try clear c5b0
           try clear c6
           try clear c6b0
           try clear c8
           try clear c8b0
           try clear c8b1
           try clear hx103_0
           try clear p1
           try clear p103
           try clear p2
           try clear q1
           try clear q103
           obtain ⟨x6_4, x7_4, rfl, rfl, HA, HK4, HO_3, HB⟩ := hrel
           cases gk with
           | zero => exact absurd HA.out (by simp [frisketlaw09_patterns.l1])
           | succ k4 =>
            have H := HA.out
            clear HA
            simp only [frisketlaw09_patterns.l1] at H
            by_cases c9 : x7_4 < (IntKind.u64.wrap (1 + (Int.tmod (IntKind.u64.wrap (rd l0 x4_1)) 4)))
            ·rw [if_pos c9] at H
             have c9b0 : decide (x7_4 < (IntKind.u64.wrap (1 + (Int.tmod (IntKind.u64.wrap (rd l0 x4_1)) 4)))) = true := decide_eq_true c9
             clear c9
             by_cases c10 : (Int.tmod (IntKind.u64.wrap ((Int.tmod (IntKind.u64.wrap (Int.tdiv (IntKind.u64.wrap (rd l0 x4_1)) 3)) 7) * (IntKind.u64.wrap (x7_4 + 1)))) 10) > 0
             ·rw [if_pos c10] at H
              have c10b0 : decide (0 < (Int.tmod (IntKind.u64.wrap ((Int.tmod (IntKind.u64.wrap (Int.tdiv (IntKind.u64.wrap (rd l0 x4_1)) 3)) 7) * (IntKind.u64.wrap (x7_4 + 1)))) 10)) = true := decide_eq_true c10
              clear c10
              obtain ⟨y104, hy104⟩ : ∃ y_ : List Int, y_ = (([(IntKind.u64.wrap (48 + (Int.tmod (IntKind.u64.wrap ((Int.tmod (IntKind.u64.wrap (Int.tdiv (IntKind.u64.wrap (rd l0 x4_1)) 3)) 7) * (IntKind.u64.wrap (x7_4 + 1)))) 10))) % 256] : List Int)) := ⟨_, rfl⟩
              replace H : (if x6_4.size + (strOfNums y104).size ≤ 9223372036854775807 then (if 0 ≤ (Int.tmod (IntKind.u64.wrap ((IntKind.u64.wrap (Int.tdiv (IntKind.u64.wrap (rd l0 x4_1)) 7)) + (IntKind.u64.wrap ((IntKind.u64.wrap (x7_4 * x7_4)) * 3)))) 12) then (if (Int.tmod (IntKind.u64.wrap ((IntKind.u64.wrap (Int.tdiv (IntKind.u64.wrap (rd l0 x4_1)) 7)) + (IntKind.u64.wrap ((IntKind.u64.wrap (x7_4 * x7_4)) * 3)))) 12) ≤ (IntKind.u64.wrap ((Int.tmod (IntKind.u64.wrap ((IntKind.u64.wrap (Int.tdiv (IntKind.u64.wrap (rd l0 x4_1)) 7)) + (IntKind.u64.wrap ((IntKind.u64.wrap (x7_4 * x7_4)) * 3)))) 12) + 1)) then (if (IntKind.u64.wrap ((Int.tmod (IntKind.u64.wrap ((IntKind.u64.wrap (Int.tdiv (IntKind.u64.wrap (rd l0 x4_1)) 7)) + (IntKind.u64.wrap ((IntKind.u64.wrap (x7_4 * x7_4)) * 3)))) 12) + 1)) ≤ 12 then (if (x6_4 ++ (strOfNums y104)).size + ((⟨#[97, 98, 100, 101, 105, 108, 110, 111, 114, 115, 116, 117]⟩ : ByteArray).extract ((Int.tmod (IntKind.u64.wrap ((IntKind.u64.wrap (Int.tdiv (IntKind.u64.wrap (rd l0 x4_1)) 7)) + (IntKind.u64.wrap ((IntKind.u64.wrap (x7_4 * x7_4)) * 3)))) 12) : Int).toNat ((IntKind.u64.wrap ((Int.tmod (IntKind.u64.wrap ((IntKind.u64.wrap (Int.tdiv (IntKind.u64.wrap (rd l0 x4_1)) 7)) + (IntKind.u64.wrap ((IntKind.u64.wrap (x7_4 * x7_4)) * 3)))) 12) + 1)) : Int).toNat).size ≤ 9223372036854775807 then (frisketlaw09_patterns.l1 k4 l0 x3_1 x4_1 (IntKind.u64.wrap (rd l0 x4_1)) ((x6_4 ++ (strOfNums y104)) ++ ((⟨#[97, 98, 100, 101, 105, 108, 110, 111, 114, 115, 116, 117]⟩ : ByteArray).extract ((Int.tmod (IntKind.u64.wrap ((IntKind.u64.wrap (Int.tdiv (IntKind.u64.wrap (rd l0 x4_1)) 7)) + (IntKind.u64.wrap ((IntKind.u64.wrap (x7_4 * x7_4)) * 3)))) 12) : Int).toNat ((IntKind.u64.wrap ((Int.tmod (IntKind.u64.wrap ((IntKind.u64.wrap (Int.tdiv (IntKind.u64.wrap (rd l0 x4_1)) 7)) + (IntKind.u64.wrap ((IntKind.u64.wrap (x7_4 * x7_4)) * 3)))) 12) + 1)) : Int).toNat)) (IntKind.u64.wrap (x7_4 + 1))) else (none)) else (none)) else (none)) else (none)) else (none)) = some r := by first | (rw [hy104]; with_reducible exact H) | (have H2_ := (Option.bind_some _ _).symm.trans H; rw [hy104]; with_reducible exact H2_) | (have H2_ := (Option.bind_some _ _).symm.trans H; with_reducible exact H2_) | with_reducible exact H | (rw [hy104]; exact H) | exact H
              have Ny104 := Aside0.mk hy104
              clear hy104
              by_cases c11 : x6_4.size + (strOfNums y104).size ≤ 9223372036854775807
              ·rw [if_pos c11] at H
               have c11b0 := eq_true c11
               have c11b1 : decide (x6_4.size + (strOfNums y104).size ≤ 9223372036854775807) = true := decide_eq_true c11
               try have c11b2 : (9223372036854775807 < x6_4.size + (strOfNums y104).size) = False := eq_false (Nat.not_lt.2 c11)
               try (have c11y := c11; simp only [ByteArray.size_append, ByteArray.size_extract, bs0, bs1, bs2, bs3, bs4, bs5, bs6, bs7, bs8, bs9, bs10, bs11, bs12, bs13, bs14, bs15, bs16, bs17, bs18, bs19, bs20, bs21, bs22, bs23, bs24, bs25, bs26, bs27, bs28, bs29, bs30, bs31, bs32] at c11y; replace c11y := eq_false (Nat.not_lt.2 c11y))
               obtain ⟨sj12, hsj12⟩ : ∃ j_ : ByteArray, (x6_4 ++ (strOfNums y104)) = j_ := ⟨_, rfl⟩
               replace H : (if 0 ≤ (Int.tmod (IntKind.u64.wrap ((IntKind.u64.wrap (Int.tdiv (IntKind.u64.wrap (rd l0 x4_1)) 7)) + (IntKind.u64.wrap ((IntKind.u64.wrap (x7_4 * x7_4)) * 3)))) 12) then (if (Int.tmod (IntKind.u64.wrap ((IntKind.u64.wrap (Int.tdiv (IntKind.u64.wrap (rd l0 x4_1)) 7)) + (IntKind.u64.wrap ((IntKind.u64.wrap (x7_4 * x7_4)) * 3)))) 12) ≤ (IntKind.u64.wrap ((Int.tmod (IntKind.u64.wrap ((IntKind.u64.wrap (Int.tdiv (IntKind.u64.wrap (rd l0 x4_1)) 7)) + (IntKind.u64.wrap ((IntKind.u64.wrap (x7_4 * x7_4)) * 3)))) 12) + 1)) then (if (IntKind.u64.wrap ((Int.tmod (IntKind.u64.wrap ((IntKind.u64.wrap (Int.tdiv (IntKind.u64.wrap (rd l0 x4_1)) 7)) + (IntKind.u64.wrap ((IntKind.u64.wrap (x7_4 * x7_4)) * 3)))) 12) + 1)) ≤ 12 then (if sj12.size + ((⟨#[97, 98, 100, 101, 105, 108, 110, 111, 114, 115, 116, 117]⟩ : ByteArray).extract ((Int.tmod (IntKind.u64.wrap ((IntKind.u64.wrap (Int.tdiv (IntKind.u64.wrap (rd l0 x4_1)) 7)) + (IntKind.u64.wrap ((IntKind.u64.wrap (x7_4 * x7_4)) * 3)))) 12) : Int).toNat ((IntKind.u64.wrap ((Int.tmod (IntKind.u64.wrap ((IntKind.u64.wrap (Int.tdiv (IntKind.u64.wrap (rd l0 x4_1)) 7)) + (IntKind.u64.wrap ((IntKind.u64.wrap (x7_4 * x7_4)) * 3)))) 12) + 1)) : Int).toNat).size ≤ 9223372036854775807 then (frisketlaw09_patterns.l1 k4 l0 x3_1 x4_1 (IntKind.u64.wrap (rd l0 x4_1)) (sj12 ++ ((⟨#[97, 98, 100, 101, 105, 108, 110, 111, 114, 115, 116, 117]⟩ : ByteArray).extract ((Int.tmod (IntKind.u64.wrap ((IntKind.u64.wrap (Int.tdiv (IntKind.u64.wrap (rd l0 x4_1)) 7)) + (IntKind.u64.wrap ((IntKind.u64.wrap (x7_4 * x7_4)) * 3)))) 12) : Int).toNat ((IntKind.u64.wrap ((Int.tmod (IntKind.u64.wrap ((IntKind.u64.wrap (Int.tdiv (IntKind.u64.wrap (rd l0 x4_1)) 7)) + (IntKind.u64.wrap ((IntKind.u64.wrap (x7_4 * x7_4)) * 3)))) 12) + 1)) : Int).toNat)) (IntKind.u64.wrap (x7_4 + 1))) else (none)) else (none)) else (none)) else (none)) = some r := by first | (rw [hsj12] at H; exact H) | (simp only [hsj12] at H ⊢; exact H) | exact H
               obtain ⟨ji13, hji13⟩ : ∃ j_ : Int, (Int.tmod (IntKind.u64.wrap ((IntKind.u64.wrap (Int.tdiv (IntKind.u64.wrap (rd l0 x4_1)) 7)) + (IntKind.u64.wrap ((IntKind.u64.wrap (x7_4 * x7_4)) * 3)))) 12) = j_ := ⟨_, rfl⟩
               replace H : (if 0 ≤ (ji13) then (if (ji13) ≤ (IntKind.u64.wrap ((ji13) + 1)) then (if (IntKind.u64.wrap ((ji13) + 1)) ≤ 12 then (if sj12.size + ((⟨#[97, 98, 100, 101, 105, 108, 110, 111, 114, 115, 116, 117]⟩ : ByteArray).extract ((ji13) : Int).toNat ((IntKind.u64.wrap ((ji13) + 1)) : Int).toNat).size ≤ 9223372036854775807 then (frisketlaw09_patterns.l1 k4 l0 x3_1 x4_1 (IntKind.u64.wrap (rd l0 x4_1)) (sj12 ++ ((⟨#[97, 98, 100, 101, 105, 108, 110, 111, 114, 115, 116, 117]⟩ : ByteArray).extract ((ji13) : Int).toNat ((IntKind.u64.wrap ((ji13) + 1)) : Int).toNat)) (IntKind.u64.wrap (x7_4 + 1))) else (none)) else (none)) else (none)) else (none)) = some r := by first | (rw [hji13] at H; exact H) | (simp only [hji13] at H ⊢; exact H)
               by_cases c14 : 0 ≤ (ji13)
               ·rw [if_pos c14] at H
                have c14b0 := eq_true c14
                have c14b1 : decide (0 ≤ (ji13)) = true := decide_eq_true c14
                clear c14
                by_cases c15 : (ji13) ≤ (IntKind.u64.wrap ((ji13) + 1))
                ·rw [if_pos c15] at H
                 have c15b0 := eq_true c15
                 have c15b1 : decide ((ji13) ≤ (IntKind.u64.wrap ((ji13) + 1))) = true := decide_eq_true c15
                 by_cases c16 : (IntKind.u64.wrap ((ji13) + 1)) ≤ 12
                 ·rw [if_pos c16] at H
                  have c16b0 := eq_true c16
                  have c16b1 : decide ((IntKind.u64.wrap ((ji13) + 1)) ≤ 12) = true := decide_eq_true c16
                  obtain ⟨sj17, hsj17⟩ : ∃ j_ : ByteArray, ((⟨#[97, 98, 100, 101, 105, 108, 110, 111, 114, 115, 116, 117]⟩ : ByteArray).extract ((ji13) : Int).toNat ((IntKind.u64.wrap ((ji13) + 1)) : Int).toNat) = j_ := ⟨_, rfl⟩
                  replace H : (if sj12.size + sj17.size ≤ 9223372036854775807 then (frisketlaw09_patterns.l1 k4 l0 x3_1 x4_1 (IntKind.u64.wrap (rd l0 x4_1)) (sj12 ++ sj17) (IntKind.u64.wrap (x7_4 + 1))) else (none)) = some r := by first | (rw [hsj17] at H; exact H) | (simp only [hsj17] at H ⊢; exact H) | exact H
                  by_cases c18 : sj12.size + sj17.size ≤ 9223372036854775807
                  ·rw [if_pos c18] at H
                   have c18b0 := eq_true c18
                   have c18b1 : decide (sj12.size + sj17.size ≤ 9223372036854775807) = true := decide_eq_true c18
                   try have c18b2 : (9223372036854775807 < sj12.size + sj17.size) = False := eq_false (Nat.not_lt.2 c18)
                   try (have c18y := c18; simp only [ByteArray.size_append, ByteArray.size_extract, bs0, bs1, bs2, bs3, bs4, bs5, bs6, bs7, bs8, bs9, bs10, bs11, bs12, bs13, bs14, bs15, bs16, bs17, bs18, bs19, bs20, bs21, bs22, bs23, bs24, bs25, bs26, bs27, bs28, bs29, bs30, bs31, bs32] at c18y; replace c18y := eq_false (Nat.not_lt.2 c18y))
                   obtain ⟨sj19, hsj19⟩ : ∃ j_ : ByteArray, (sj12 ++ sj17) = j_ := ⟨_, rfl⟩
                   replace H : (frisketlaw09_patterns.l1 k4 l0 x3_1 x4_1 (IntKind.u64.wrap (rd l0 x4_1)) sj19 (IntKind.u64.wrap (x7_4 + 1))) = some r := by first | (rw [hsj19] at H; exact H) | (simp only [hsj19] at H ⊢; exact H) | exact H
                   have H' := Aside0.mk H
                   clear H
                   go_wp2_with (first | ((with_reducible refine gate_dst (N := 48) rfl ?_); refine Kd.R_lit (Kd.int .u8) _ 5 ?hg (N := 48) ?hd (xs := ([(IntKind.u64.wrap (48 + (Int.tmod (IntKind.u64.wrap ((Int.tmod (IntKind.u64.wrap (Int.tdiv (IntKind.u64.wrap (rd l0 x4_1)) 3)) 7) * (IntKind.u64.wrap (x7_4 + 1)))) 10))) % 256] : List Int)) (inner := [.int .u8 ((IntKind.u64.wrap (48 + (Int.tmod (IntKind.u64.wrap ((Int.tmod (IntKind.u64.wrap (Int.tdiv (IntKind.u64.wrap (rd l0 x4_1)) 3)) 7) * (IntKind.u64.wrap (x7_4 + 1)))) 10))) % 256)]) (ok := fun _ => True) (okp := fun _ => True) ?hr ?hp (fun _ hk => hk) trivial (Below.refl _ _) (Nat.le_refl _) (by simp) ?_; (case hd => rfl); (case hg => rfl); (case hr => first | (go_simp; done) | (go_simp; rfl)); (case hp => exact (Reps.one (show Kd.M (Kd.int .u8) _ _ _ ((IntKind.u64.wrap (48 + (Int.tmod (IntKind.u64.wrap ((Int.tmod (IntKind.u64.wrap (Int.tdiv (IntKind.u64.wrap (rd l0 x4_1)) 3)) 7) * (IntKind.u64.wrap (x7_4 + 1)))) 10))) % 256) [.int .u8 ((IntKind.u64.wrap (48 + (Int.tmod (IntKind.u64.wrap ((Int.tmod (IntKind.u64.wrap (Int.tdiv (IntKind.u64.wrap (rd l0 x4_1)) 3)) 7) * (IntKind.u64.wrap (x7_4 + 1)))) 10))) % 256)] from rfl) (Reps.none _ _))); intro v105 w20 ho21 hb hg_ hnew_; clear hg_ hnew_; (first | rw [← Ny104.out] at ho21 | (simp only [Int.reduceToNat] at ho21; rw [← Ny104.out] at ho21)); have n0_ := Aside0.mk (Kd.R_below (by (with_reducible repeat (first | apply Kd.R_alloc | apply Kd.R_drewN | apply Kd.R_drew)); exact HO_3.out) hb); have n1_ := Aside0.mk (Kd.R_lower ho21 (below_size (by repeat (first | (with_reducible first | exact HB.out | apply below_alloc | apply pw_below_drewN | apply below_drew1) | exact HB.out)))); have n2_ := Aside0.mk (below_step (by repeat (first | (with_reducible first | exact HB.out | apply below_alloc | apply pw_below_drewN | apply below_drew1) | exact HB.out)) hb); clear HO_3; clear HB; have HO_3 := n0_; have HO106 := n1_; have HB := n2_; clear n0_ n1_ n2_; clear hb ho21; have hcv22 := own_string (P := Tryd.prog) Tryd.underlying37 Tryd.underlying5 Tryd.underlying9 (Kd.own_of_R HO106.out)))
                   go_roundg k4
                   case measure => have := HK1.out; have := HJ1.out; have := HJ6.out; have := HK4.out; omega
                   case rel => exact ⟨(sj19), (IntKind.u64.wrap (x7_4 + 1)), (by first | rfl | (simp; done) | (simp only [← hsj19] <;> (first | rfl | simp)) | (simp [*]; done)), (by first | rfl | (simp; done) | (simp [*]; done)), H', ⟨by have := HK1.out; have := HJ1.out; have := HJ6.out; have := HK4.out; omega⟩, ⟨by (with_reducible repeat (first | apply Kd.R_alloc | apply Kd.R_drewN | apply Kd.R_drew)); exact HO_3.out⟩, ⟨by repeat (first | (with_reducible first | exact HB.out | apply below_alloc | apply pw_below_drewN | apply below_drew1) | exact HB.out)⟩⟩
                  ·rw [if_neg c18] at H
                   exact absurd H (by simp)
                 ·rw [if_neg c16] at H
                  exact absurd H (by simp)
                ·rw [if_neg c15] at H
                 exact absurd H (by simp)
               ·rw [if_neg c14] at H
                exact absurd H (by simp)
              ·rw [if_neg c11] at H
               exact absurd H (by simp)
             ·rw [if_neg c10] at H
              have c10b0 : decide (0 < (Int.tmod (IntKind.u64.wrap ((Int.tmod (IntKind.u64.wrap (Int.tdiv (IntKind.u64.wrap (rd l0 x4_1)) 3)) 7) * (IntKind.u64.wrap (x7_4 + 1)))) 10)) = false := decide_eq_false c10
              clear c10
              obtain ⟨ji23, hji23⟩ : ∃ j_ : Int, (Int.tmod (IntKind.u64.wrap ((IntKind.u64.wrap (Int.tdiv (IntKind.u64.wrap (rd l0 x4_1)) 7)) + (IntKind.u64.wrap ((IntKind.u64.wrap (x7_4 * x7_4)) * 3)))) 12) = j_ := ⟨_, rfl⟩
              replace H : (if 0 ≤ (ji23) then (if (ji23) ≤ (IntKind.u64.wrap ((ji23) + 1)) then (if (IntKind.u64.wrap ((ji23) + 1)) ≤ 12 then (if x6_4.size + ((⟨#[97, 98, 100, 101, 105, 108, 110, 111, 114, 115, 116, 117]⟩ : ByteArray).extract ((ji23) : Int).toNat ((IntKind.u64.wrap ((ji23) + 1)) : Int).toNat).size ≤ 9223372036854775807 then (frisketlaw09_patterns.l1 k4 l0 x3_1 x4_1 (IntKind.u64.wrap (rd l0 x4_1)) (x6_4 ++ ((⟨#[97, 98, 100, 101, 105, 108, 110, 111, 114, 115, 116, 117]⟩ : ByteArray).extract ((ji23) : Int).toNat ((IntKind.u64.wrap ((ji23) + 1)) : Int).toNat)) (IntKind.u64.wrap (x7_4 + 1))) else (none)) else (none)) else (none)) else (none)) = some r := by first | (rw [hji23] at H; exact H) | (simp only [hji23] at H ⊢; exact H)
              by_cases c24 : 0 ≤ (ji23)
              ·rw [if_pos c24] at H
               have c24b0 := eq_true c24
               have c24b1 : decide (0 ≤ (ji23)) = true := decide_eq_true c24
               clear c24
               by_cases c25 : (ji23) ≤ (IntKind.u64.wrap ((ji23) + 1))
               ·rw [if_pos c25] at H
                have c25b0 := eq_true c25
                have c25b1 : decide ((ji23) ≤ (IntKind.u64.wrap ((ji23) + 1))) = true := decide_eq_true c25
                by_cases c26 : (IntKind.u64.wrap ((ji23) + 1)) ≤ 12
                ·rw [if_pos c26] at H
                 have c26b0 := eq_true c26
                 have c26b1 : decide ((IntKind.u64.wrap ((ji23) + 1)) ≤ 12) = true := decide_eq_true c26
                 obtain ⟨sj27, hsj27⟩ : ∃ j_ : ByteArray, ((⟨#[97, 98, 100, 101, 105, 108, 110, 111, 114, 115, 116, 117]⟩ : ByteArray).extract ((ji23) : Int).toNat ((IntKind.u64.wrap ((ji23) + 1)) : Int).toNat) = j_ := ⟨_, rfl⟩
                 replace H : (if x6_4.size + sj27.size ≤ 9223372036854775807 then (frisketlaw09_patterns.l1 k4 l0 x3_1 x4_1 (IntKind.u64.wrap (rd l0 x4_1)) (x6_4 ++ sj27) (IntKind.u64.wrap (x7_4 + 1))) else (none)) = some r := by first | (rw [hsj27] at H; exact H) | (simp only [hsj27] at H ⊢; exact H) | exact H
                 by_cases c28 : x6_4.size + sj27.size ≤ 9223372036854775807
                 ·rw [if_pos c28] at H
                  have c28b0 := eq_true c28
                  have c28b1 : decide (x6_4.size + sj27.size ≤ 9223372036854775807) = true := decide_eq_true c28
                  try have c28b2 : (9223372036854775807 < x6_4.size + sj27.size) = False := eq_false (Nat.not_lt.2 c28)
                  try (have c28y := c28; simp only [ByteArray.size_append, ByteArray.size_extract, bs0, bs1, bs2, bs3, bs4, bs5, bs6, bs7, bs8, bs9, bs10, bs11, bs12, bs13, bs14, bs15, bs16, bs17, bs18, bs19, bs20, bs21, bs22, bs23, bs24, bs25, bs26, bs27, bs28, bs29, bs30, bs31, bs32] at c28y; replace c28y := eq_false (Nat.not_lt.2 c28y))
                  obtain ⟨sj29, hsj29⟩ : ∃ j_ : ByteArray, (x6_4 ++ sj27) = j_ := ⟨_, rfl⟩
                  replace H : (frisketlaw09_patterns.l1 k4 l0 x3_1 x4_1 (IntKind.u64.wrap (rd l0 x4_1)) sj29 (IntKind.u64.wrap (x7_4 + 1))) = some r := by first | (rw [hsj29] at H; exact H) | (simp only [hsj29] at H ⊢; exact H) | exact H
                  have H' := Aside0.mk H
                  clear H
                  go_wp2
                  go_roundg k4
                  case measure => have := HK1.out; have := HJ1.out; have := HJ6.out; have := HK4.out; omega
                  case rel => exact ⟨(sj29), (IntKind.u64.wrap (x7_4 + 1)), (by first | rfl | (simp; done) | (simp only [← hsj29] <;> (first | rfl | simp)) | (simp [*]; done)), (by first | rfl | (simp; done) | (simp [*]; done)), H', ⟨by have := HK1.out; have := HJ1.out; have := HJ6.out; have := HK4.out; omega⟩, ⟨by (with_reducible repeat (first | apply Kd.R_alloc | apply Kd.R_drewN | apply Kd.R_drew)); exact HO_3.out⟩, ⟨by repeat (first | (with_reducible first | exact HB.out | apply below_alloc | apply pw_below_drewN | apply below_drew1) | exact HB.out)⟩⟩
                 ·rw [if_neg c28] at H
                  exact absurd H (by simp)
                ·rw [if_neg c26] at H
                 exact absurd H (by simp)
               ·rw [if_neg c25] at H
                exact absurd H (by simp)
              ·rw [if_neg c24] at H
               exact absurd H (by simp)
            ·rw [if_neg c9] at H
             have c9b0 : decide (x7_4 < (IntKind.u64.wrap (1 + (Int.tmod (IntKind.u64.wrap (rd l0 x4_1)) 4)))) = false := decide_eq_false c9
             clear c9
             by_cases c30 : (Int.tmod (IntKind.u64.wrap (rd l0 x4_1)) 13) = 0
             ·rw [if_pos c30] at H
              have c30b0 : ((Int.tmod (IntKind.u64.wrap (rd l0 x4_1)) 13) == 0) = true := beq_iff_eq.mpr c30
              have c30b1 : ((Int.tmod (IntKind.u64.wrap (rd l0 x4_1)) 13) != 0) = false := bne_eq_false_iff_eq.mpr c30
              clear c30
              by_cases c31 : x6_4.size + 1 ≤ 9223372036854775807
              ·rw [if_pos c31] at H
               have c31b0 := eq_true c31
               have c31b1 : decide (x6_4.size + 1 ≤ 9223372036854775807) = true := decide_eq_true c31
               try have c31b2 : (9223372036854775807 < x6_4.size + 1) = False := eq_false (Nat.not_lt.2 c31)
               try (have c31y := c31; simp only [ByteArray.size_append, ByteArray.size_extract, bs0, bs1, bs2, bs3, bs4, bs5, bs6, bs7, bs8, bs9, bs10, bs11, bs12, bs13, bs14, bs15, bs16, bs17, bs18, bs19, bs20, bs21, bs22, bs23, bs24, bs25, bs26, bs27, bs28, bs29, bs30, bs31, bs32] at c31y; replace c31y := eq_false (Nat.not_lt.2 c31y))
               obtain ⟨sj32, hsj32⟩ : ∃ j_ : ByteArray, (x6_4 ++ (⟨#[46]⟩ : ByteArray)) = j_ := ⟨_, rfl⟩
               replace H : (if x3_1.length < 8796093022208 then (frisketlaw09_patterns.l0 k4 l0 (x3_1 ++ [sj32]) (wrap64 (x4_1 + 1))) else (none)) = some r := by first | (rw [hsj32] at H; exact H) | (simp only [hsj32] at H ⊢; exact H) | exact H
               by_cases c33 : x3_1.length < 8796093022208
               ·rw [if_pos c33] at H
                have LMc33 := Aside0.mk c33
                clear c33
                obtain ⟨y107, hy107⟩ : ∃ y_ : List ByteArray, y_ = (x3_1 ++ [sj32]) := ⟨_, rfl⟩
                replace H : (frisketlaw09_patterns.l0 k4 l0 y107 (wrap64 (x4_1 + 1))) = some r := by first | (rw [hy107]; with_reducible exact H) | (have H2_ := (Option.bind_some _ _).symm.trans H; rw [hy107]; with_reducible exact H2_) | (have H2_ := (Option.bind_some _ _).symm.trans H; with_reducible exact H2_) | with_reducible exact H | (rw [hy107]; exact H) | exact H
                have Ny107 := Aside0.mk hy107
                clear hy107
                have H' := Aside0.mk H
                clear H
                go_wp2_with (first | ((with_reducible refine gate_builtin (b := .append) (xs := #[.tmp 70, .tmp 72]) rfl ?_); at_builtin; refine Kd.R_append Kd.string (w0 := w) w.heap.size rfl (.tmp 70) (.tmp 72) 26 9 (.string ⟨#[]⟩) 16 rfl Tryd.underlying26 info9 rfl (by decide) (by omega) u3 x3_1 sj32 [.string sj32] (fun _ => True) (fun _ => False) rfl rfl ?aP (fun _ hk => hk.elim) ?aF ?aO ?aB ?aS ?aL ?_; (case aP => exact rfl); (case aB => exact (by repeat (first | (with_reducible first | exact HB.out | apply below_alloc | apply pw_below_drewN | apply below_drew1) | exact HB.out))); (case aF => exact (fun _ _ => trivial)); (case aO => exact (by (with_reducible repeat (first | apply Kd.R_alloc | apply Kd.R_drewN | apply Kd.R_drew)); exact HO_3.out)); (case aS => exact (below_size (by repeat (first | (with_reducible first | exact HB.out | apply below_alloc | apply pw_below_drewN | apply below_drew1) | exact HB.out)))); (case aL => have := LMc33.out; omega); intro v108 w34 ho hb hg hat; rw [← Ny107.out] at ho; have n0_ := Aside0.mk (hb); have n1_ := Aside0.mk (ho); clear HB; clear HO_3; have HB := n0_; have HO109 := n1_; clear n0_ n1_; clear ho hb hg hat))
                go_roundg k4
                case measure => have := HK1.out; have := HJ1.out; have := HJ6.out; have := HK4.out; omega
                case rel => exact ⟨(y107), (wrap64 (x4_1 + 1)), (by first | rfl | (simp; done) | (simp [*]; done)), H', ⟨by have := HK1.out; have := HJ1.out; have := HJ6.out; have := HK4.out; omega⟩, ⟨by (with_reducible repeat (first | apply Kd.R_alloc | apply Kd.R_drewN | apply Kd.R_drew)); exact HO109.out⟩, ⟨by repeat (first | (with_reducible first | exact HB.out | apply below_alloc | apply pw_below_drewN | apply below_drew1) | exact HB.out)⟩⟩
               ·rw [if_neg c33] at H
                exact absurd H (by simp)
              ·rw [if_neg c31] at H
               exact absurd H (by simp)
             ·rw [if_neg c30] at H
              have c30b0 : ((Int.tmod (IntKind.u64.wrap (rd l0 x4_1)) 13) == 0) = false := beq_eq_false_iff_ne.mpr c30
              have c30b1 : ((Int.tmod (IntKind.u64.wrap (rd l0 x4_1)) 13) != 0) = true := bne_iff_ne.mpr c30
              by_cases c35 : x3_1.length < 8796093022208
              ·rw [if_pos c35] at H
               have LMc35 := Aside0.mk c35
               clear c35
               obtain ⟨y110, hy110⟩ : ∃ y_ : List ByteArray, y_ = (x3_1 ++ [x6_4]) := ⟨_, rfl⟩
               replace H : (frisketlaw09_patterns.l0 k4 l0 y110 (wrap64 (x4_1 + 1))) = some r := by first | (rw [hy110]; with_reducible exact H) | (have H2_ := (Option.bind_some _ _).symm.trans H; rw [hy110]; with_reducible exact H2_) | (have H2_ := (Option.bind_some _ _).symm.trans H; with_reducible exact H2_) | with_reducible exact H | (rw [hy110]; exact H) | exact H
               have Ny110 := Aside0.mk hy110
               clear hy110
               have H' := Aside0.mk H
               clear H
               go_wp2_with (first | ((with_reducible refine gate_builtin (b := .append) (xs := #[.tmp 70, .tmp 72]) rfl ?_); at_builtin; refine Kd.R_append Kd.string (w0 := w) w.heap.size rfl (.tmp 70) (.tmp 72) 26 9 (.string ⟨#[]⟩) 16 rfl Tryd.underlying26 info9 rfl (by decide) (by omega) u3 x3_1 x6_4 [.string x6_4] (fun _ => True) (fun _ => False) rfl rfl ?aP (fun _ hk => hk.elim) ?aF ?aO ?aB ?aS ?aL ?_; (case aP => exact rfl); (case aB => exact (by repeat (first | (with_reducible first | exact HB.out | apply below_alloc | apply pw_below_drewN | apply below_drew1) | exact HB.out))); (case aF => exact (fun _ _ => trivial)); (case aO => exact (by (with_reducible repeat (first | apply Kd.R_alloc | apply Kd.R_drewN | apply Kd.R_drew)); exact HO_3.out)); (case aS => exact (below_size (by repeat (first | (with_reducible first | exact HB.out | apply below_alloc | apply pw_below_drewN | apply below_drew1) | exact HB.out)))); (case aL => have := LMc35.out; omega); intro v111 w36 ho hb hg hat; rw [← Ny110.out] at ho; have n0_ := Aside0.mk (hb); have n1_ := Aside0.mk (ho); clear HB; clear HO_3; have HB := n0_; have HO112 := n1_; clear n0_ n1_; clear ho hb hg hat))
               go_roundg k4
               case measure => have := HK1.out; have := HJ1.out; have := HJ6.out; have := HK4.out; omega
               case rel => exact ⟨(y110), (wrap64 (x4_1 + 1)), (by first | rfl | (simp; done) | (simp [*]; done)), H', ⟨by have := HK1.out; have := HJ1.out; have := HJ6.out; have := HK4.out; omega⟩, ⟨by (with_reducible repeat (first | apply Kd.R_alloc | apply Kd.R_drewN | apply Kd.R_drew)); exact HO112.out⟩, ⟨by repeat (first | (with_reducible first | exact HB.out | apply below_alloc | apply pw_below_drewN | apply below_drew1) | exact HB.out)⟩⟩
              ·rw [if_neg c35] at H
               exact absurd H (by simp)
       ·rw [if_neg c6] at H
        exact absurd H (by simp)
      ·rw [if_neg c5] at H
       exact absurd H (by simp)
     ·replace c4 := Bool.eq_false_iff.mpr c4
      subst c4
      have H1 : (some x3_1) = some r := by rw [if_neg (show ¬ (false = true) by decide)] at H; exact H
      clear H
      have H := H1
      clear H1
      obtain rfl := Option.some.inj H
      go_wp2
      go_ret
      exact ⟨_, by first | rfl | (simp [errW_none, errW_some] <;> rfl) | (simp [*, errW_none, errW_some] <;> rfl), by (with_reducible repeat (first | apply Kd.R_alloc | apply Kd.R_drewN | apply Kd.R_drew)); exact HO_3.out, by repeat (first | (with_reducible first | exact HB.out | apply below_alloc | apply pw_below_drewN | apply below_drew1) | exact HB.out)⟩

end Go.Proofs.YtmjglgbkigjfkaaDoor.Xa
