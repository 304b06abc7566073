-- YtifpjidkfemkfaaDoorXj: written by wip/xprint.py of this repo, which drives the kit's print; not trusted: Lean checks it
import Derived.Test.YtifpjidkfemkfaaDoorYj0
namespace Go.Proofs.YtifpjidkfemkfaaDoor.Xj
open Go.RowKit Go.Proofs.YtifpjidkfemkfaaDoorW.PrintWords Go.Proofs.YtifpjidkfemkfaaDoorW.PrintLast Go.Proofs.YtifpjidkfemkfaaDoorW.PrintMore
attribute [local go_sem] max2_int min2_int max_two min_two max_three min_three max_four min_four   -- for this text's walks alone
open Go.Proofs.YtifpjidkfemkfaaDoor
set_option linter.unusedVariables false
set_option linter.unusedSimpArgs false

/-! ### frisketlaw04_sane: function 5 -/
def frisketlaw04_sane.f : Option (Bool) := some true
theorem frisketlaw04_sane.calls (r : Bool) (w : World) (h : frisketlaw04_sane.f = some r) :
  Calls Tryd.prog 5 #[] w fun e w' => e = .returned (.bool r) ∧ Below w.heap.size w w' := by
 obtain rfl := Option.some.inj h
 exact sane_calls w

/-! ### frisketlaw04_list: function 8 -/
def frisketlaw04_list.l0 : Nat → List ByteArray → List ByteArray → Int → Option (Bool)
 | 0, _, _, _ => none
 | k + 1, x0, x1, x5 => if x5 < (x0.length : Int) then (if 0 ≤ x5 then (if x5 < (x1.length : Int) then (if (rdOf ByteArray.empty x0 x5).toList = (rdOf ByteArray.empty x1 x5).toList then (frisketlaw04_list.l0 k x0 x1 (wrap64 (x5 + 1))) else (some false)) else (none)) else (none)) else (some true)
def frisketlaw04_list.f (k : Nat) (l0 : List ByteArray) (l1 : List ByteArray) : Option (Bool) := if (l0.length : Int) = (l1.length : Int) then (frisketlaw04_list.l0 k l0 l1 0) else (some false)
theorem frisketlaw04_list.mono_l : ∀ k, (∀ y0 y1 y2, LeO (frisketlaw04_list.l0 k y0 y1 y2) (frisketlaw04_list.l0 (k + 1) y0 y1 y2))
 | 0 => fun _ _ _ r h => by simp [frisketlaw04_list.l0] at h
 | k + 1 => by
  have ih0 := frisketlaw04_list.mono_l k
  ·intro y0 y1 y2
   unfold frisketlaw04_list.l0
   repeat' first
   | (with_reducible exact ih0 _ _ _)
   | (with_reducible exact LeO.refl _)
   | (with_reducible exact LeO.none _)
   | (with_reducible refine LeO.ite ?_ ?_)
   | (with_reducible refine LeO.bind ?_ (fun _ => ?_))
   | exact ih0 _ _ _
   | exact LeO.none _
   | refine LeO.ite ?_ ?_
   | refine LeO.bind ?_ (fun _ => ?_)
theorem frisketlaw04_list.mono : ∀ a0 a1 k, LeO (frisketlaw04_list.f k a0 a1) (frisketlaw04_list.f (k + 1) a0 a1) := by
 intro a0 a1 k
 have ih0 := frisketlaw04_list.mono_l k
 unfold frisketlaw04_list.f
 repeat' first
   | (with_reducible exact ih0 _ _ _)
   | (with_reducible exact LeO.refl _)
   | (with_reducible exact LeO.none _)
   | (with_reducible refine LeO.ite ?_ ?_)
   | (with_reducible refine LeO.bind ?_ (fun _ => ?_))
   | exact ih0 _ _ _
   | exact LeO.none _
   | refine LeO.ite ?_ ?_
   | refine LeO.bind ?_ (fun _ => ?_)
set_option maxHeartbeats 8000000 in
set_option maxRecDepth 100000 in
theorem frisketlaw04_list.calls (k : Nat) (A0 : Option Addr) (c0 : Nat) (l0 : List ByteArray) (A1 : Option Addr) (c1 : Nat) (l1 : List ByteArray) (r : Bool) (w : World) (hr0 : Kd.C Kd.string w A0 l0.length l0) (hc0 : l0.length ≤ c0) (hr1 : Kd.C Kd.string w A1 l1.length l1) (hc1 : l1.length ≤ c1) (h : frisketlaw04_list.f k l0 l1 = some r) :
  Calls Tryd.prog 8 #[.slice A0 l0.length c0, .slice A1 l1.length c1] w fun e w' => e = .returned (.bool r) ∧ Drawn0 w w' := by
 have HR0 := Aside0.mk hr0
 have HC0 := Aside0.mk hc0
 clear hr0 hc0
 have HR1 := Aside0.mk hr1
 have HC1 := Aside0.mk hc1
 clear hr1 hc1
 have H : (if (l0.length : Int) = (l1.length : Int) then (frisketlaw04_list.l0 k l0 l1 0) else (some false)) = some r := h
 clear h
 by_cases c3 : (l0.length : Int) = (l1.length : Int)
 ·rw [if_pos c3] at H
  have c3b0 : ((l0.length : Int) == (l1.length : Int)) = true := beq_iff_eq.mpr c3
  have c3b1 : ((l0.length : Int) != (l1.length : Int)) = false := bne_eq_false_iff_eq.mpr c3
  have c3b2 : (l0.length == l1.length) = true := by first | simpa using c3 | (simp at c3 ⊢; omega)
  clear c3
  have H' := Aside0.mk H
  clear H
  go_enter Tryd.func8, Tryd.ntmps8
  go_wp2
  repeat (go_quiet (fail); try go_wp2)
  go_loopg [5] k (fun kq v5 w' => ∃ (x5_1 : Int), v5 = .int .i64 x5_1 ∧ Aside0 (frisketlaw04_list.l0 kq l0 l1 x5_1 = some r) ∧ Aside0 (kq ≤ k) ∧ Drawn0 w w')
  case atStart => exact ⟨(0), (by first | rfl | (simp; done) | (simp [*]; done)), H', ⟨Nat.le_refl _⟩, by repeat (first | exact Drawn0.refl _ | apply Drawn0.step)⟩
  case round =>
   clear H'
   try clear c1
   try clear p2
   try clear c3
   try clear c3b0
   try clear c3b1
   try clear c3b2
   obtain ⟨x5_1, rfl, HA, HK1, ⟨m1, rfl⟩⟩ := hrel
   cases gk with
   | zero => exact absurd HA.out (by simp [frisketlaw04_list.l0])
   | succ k1 =>
    have H := HA.out
    clear HA
    simp only [frisketlaw04_list.l0] at H
    by_cases c4 : x5_1 < (l0.length : Int)
    ·rw [if_pos c4] at H
     have c4b0 : decide (x5_1 < (l0.length : Int)) = true := decide_eq_true c4
     clear c4
     by_cases c5 : 0 ≤ x5_1
     ·rw [if_pos c5] at H
      have c5b0 : decide (0 ≤ x5_1) = true := decide_eq_true c5
      clear c5
      by_cases c6 : x5_1 < (l1.length : Int)
      ·rw [if_pos c6] at H
       have c6b0 : decide (x5_1 < (l1.length : Int)) = true := decide_eq_true c6
       clear c6
       by_cases c7 : (rdOf ByteArray.empty l0 x5_1).toList = (rdOf ByteArray.empty l1 x5_1).toList
       ·rw [if_pos c7] at H
        have c7b0 : ((rdOf ByteArray.empty l0 x5_1).toList == (rdOf ByteArray.empty l1 x5_1).toList) = true := beq_iff_eq.mpr c7
        have c7b1 : ((rdOf ByteArray.empty l0 x5_1).toList != (rdOf ByteArray.empty l1 x5_1).toList) = false := bne_eq_false_iff_eq.mpr c7
        clear c7
        have H' := Aside0.mk H
        clear H
        have p101 : 0 ≤ (x5_1 : Int) := of_decide_eq_true (by first | (with_reducible assumption) | assumption)
        have q101 : x5_1 < (l0.length : Int) := of_decide_eq_true (by first | (with_reducible assumption) | assumption)
        obtain ⟨ad101, e101, hx101_0⟩ := Kd.at_string HR0.out x5_1 p101 q101
        cases e101
        replace p101 := eq_true p101
        replace q101 := eq_true q101
        have p102 : 0 ≤ (x5_1 : Int) := of_decide_eq_true (by first | (with_reducible assumption) | assumption)
        have q102 : x5_1 < (l1.length : Int) := of_decide_eq_true (by first | (with_reducible assumption) | assumption)
        obtain ⟨ad102, e102, hx102_0⟩ := Kd.at_string HR1.out x5_1 p102 q102
        cases e102
        replace p102 := eq_true p102
        replace q102 := eq_true q102
        go_wp2
        repeat (go_quiet (fail); try go_wp2)
        go_roundg k1
        case measure => have := HK1.out; omega
        case rel => exact ⟨(wrap64 (x5_1 + 1)), (by first | rfl | (simp; done) | (simp [*]; done)), H', ⟨by have := HK1.out; omega⟩, by repeat (first | exact Drawn0.refl _ | apply Drawn0.step)⟩
       ·rw [if_neg c7] at H
        have c7b0 : ((rdOf ByteArray.empty l0 x5_1).toList == (rdOf ByteArray.empty l1 x5_1).toList) = false := beq_eq_false_iff_ne.mpr c7
        have c7b1 : ((rdOf ByteArray.empty l0 x5_1).toList != (rdOf ByteArray.empty l1 x5_1).toList) = true := bne_iff_ne.mpr c7
        obtain rfl := Option.some.inj H
        have p101 : 0 ≤ (x5_1 : Int) := of_decide_eq_true (by first | (with_reducible assumption) | assumption)
        have q101 : x5_1 < (l0.length : Int) := of_decide_eq_true (by first | (with_reducible assumption) | assumption)
        obtain ⟨ad101, e101, hx101_0⟩ := Kd.at_string HR0.out x5_1 p101 q101
        cases e101
        replace p101 := eq_true p101
        replace q101 := eq_true q101
        have p102 : 0 ≤ (x5_1 : Int) := of_decide_eq_true (by first | (with_reducible assumption) | assumption)
        have q102 : x5_1 < (l1.length : Int) := of_decide_eq_true (by first | (with_reducible assumption) | assumption)
        obtain ⟨ad102, e102, hx102_0⟩ := Kd.at_string HR1.out x5_1 p102 q102
        cases e102
        replace p102 := eq_true p102
        replace q102 := eq_true q102
        go_wp2
        repeat (go_quiet (fail); try go_wp2)
        go_ret
        exact ⟨by first | rfl | (simp; done) | (simp [*]; done), by repeat (first | exact Drawn0.refl _ | apply Drawn0.step)⟩
      ·rw [if_neg c6] at H
       exact absurd H (by simp)
     ·rw [if_neg c5] at H
      exact absurd H (by simp)
    ·rw [if_neg c4] at H
     have c4b0 : decide (x5_1 < (l0.length : Int)) = false := decide_eq_false c4
     clear c4
     obtain rfl := Option.some.inj H
     go_wp2
     repeat (go_quiet (fail); try go_wp2)
     go_ret
     exact ⟨by first | rfl | (simp; done) | (simp [*]; done), by repeat (first | exact Drawn0.refl _ | apply Drawn0.step)⟩
 ·rw [if_neg c3] at H
  have c3b0 : ((l0.length : Int) == (l1.length : Int)) = false := beq_eq_false_iff_ne.mpr c3
  have c3b1 : ((l0.length : Int) != (l1.length : Int)) = true := bne_iff_ne.mpr c3
  have c3b2 : (l0.length == l1.length) = false := by first | simpa using c3 | (simp at c3 ⊢; omega)
  obtain rfl := Option.some.inj H
  go_enter Tryd.func8, Tryd.ntmps8
  go_wp2
  repeat (go_quiet (fail); try go_wp2)
  go_ret
  exact ⟨by first | rfl | (simp; done) | (simp [*]; done), by repeat (first | exact Drawn0.refl _ | apply Drawn0.step)⟩

/-! ### strings_TrimRight: function 19 -/
def strings_TrimRight.f (a0 : ByteArray) (a1 : ByteArray) : Option (ByteArray) := match a1.data.toList with
 | [c] => if c.toNat < 128 ∧ a0.size ≤ 9223372036854775807 then some ⟨(Lib.trimRightB a0.data.toList c).toArray⟩ else none
 | _ => none
theorem strings_TrimRight.calls (a0 : ByteArray) (a1 : ByteArray) (r : ByteArray) (w : World) (h : strings_TrimRight.f a0 a1 = some r) :
  Calls Tryd.prog 19 #[.string a0, .string a1] w fun e w' => e = .returned (.string r) ∧ Drawn0 w w' := by
 unfold strings_TrimRight.f at h
 split at h
 ·rename_i c hc
  split at h
  ·rename_i hk
   obtain rfl := Option.some.inj h
   obtain rfl := one_byte hc
   exact (Tryd.strings_TrimRight_one a0 c hk.1 w hk.2).mono fun e w' ⟨h1, h2⟩ => ⟨h1, h2 ▸ Drawn0.refl w⟩
  ·cases h
 ·cases h

/-! ### expand_Join: function 9 -/
def expand_Join.l0 : Nat → List ByteArray → List ByteArray → Bool → List ByteArray → Int → Int → Option (List ByteArray)
 | 0, _, _, _, _, _, _ => none
 | k + 1, x0, x3, x4, x8, x9, x10 => if x10 < x9 then (if 0 ≤ x10 then (if x10 < (x8.length : Int) then (if x4 = true then (if 0 ≤ (wrap64 ((x3.length : Int) - 1)) then (if (wrap64 ((x3.length : Int) - 1)) < (x3.length : Int) then (if (rdOf ByteArray.empty x3 (wrap64 ((x3.length : Int) - 1))).size + (rdOf ByteArray.empty x8 x10).size ≤ 9223372036854775807 then ((some (x3.set ((wrap64 ((x3.length : Int) - 1)) : Int).toNat ((rdOf ByteArray.empty x3 (wrap64 ((x3.length : Int) - 1))) ++ (rdOf ByteArray.empty x8 x10)) : List ByteArray)).bind fun y105 => (if (wrap64 (x10 + 1)) < (x0.length : Int) then ((strings_TrimRight.f (rdOf ByteArray.empty y105 (wrap64 ((x3.length : Int) - 1))) (⟨#[92]⟩ : ByteArray)).bind fun t107 => (if (Int.tmod (wrap64 (((rdOf ByteArray.empty y105 (wrap64 ((x3.length : Int) - 1))).size : Int) - (t107.size : Int))) 2) = 1 then (if 0 ≤ (wrap64 (((rdOf ByteArray.empty y105 (wrap64 ((x3.length : Int) - 1))).size : Int) - 1)) then (if (wrap64 (((rdOf ByteArray.empty y105 (wrap64 ((x3.length : Int) - 1))).size : Int) - 1)) ≤ ((rdOf ByteArray.empty y105 (wrap64 ((x3.length : Int) - 1))).size : Int) then (expand_Join.l0 k x0 (y105.set ((wrap64 ((x3.length : Int) - 1)) : Int).toNat ((rdOf ByteArray.empty y105 (wrap64 ((x3.length : Int) - 1))).extract 0 ((wrap64 (((rdOf ByteArray.empty y105 (wrap64 ((x3.length : Int) - 1))).size : Int) - 1)) : Int).toNat)) ((Int.tmod (wrap64 (((rdOf ByteArray.empty y105 (wrap64 ((x3.length : Int) - 1))).size : Int) - (t107.size : Int))) 2) == 1) x8 x9 (wrap64 (x10 + 1))) else (none)) else (none)) else (expand_Join.l0 k x0 y105 ((Int.tmod (wrap64 (((rdOf ByteArray.empty y105 (wrap64 ((x3.length : Int) - 1))).size : Int) - (t107.size : Int))) 2) == 1) x8 x9 (wrap64 (x10 + 1))))) else (expand_Join.l0 k x0 y105 false x8 x9 (wrap64 (x10 + 1))))) else (none)) else (none)) else (none)) else (if x3.length < 8796093022208 then ((some (x3 ++ [rdOf ByteArray.empty x8 x10] : List ByteArray)).bind fun y109 => (if 0 ≤ (wrap64 ((y109.length : Int) - 1)) then (if (wrap64 ((y109.length : Int) - 1)) < (y109.length : Int) then (if (wrap64 (x10 + 1)) < (x0.length : Int) then ((strings_TrimRight.f (rdOf ByteArray.empty y109 (wrap64 ((y109.length : Int) - 1))) (⟨#[92]⟩ : ByteArray)).bind fun t113 => (if (Int.tmod (wrap64 (((rdOf ByteArray.empty y109 (wrap64 ((y109.length : Int) - 1))).size : Int) - (t113.size : Int))) 2) = 1 then (if 0 ≤ (wrap64 (((rdOf ByteArray.empty y109 (wrap64 ((y109.length : Int) - 1))).size : Int) - 1)) then (if (wrap64 (((rdOf ByteArray.empty y109 (wrap64 ((y109.length : Int) - 1))).size : Int) - 1)) ≤ ((rdOf ByteArray.empty y109 (wrap64 ((y109.length : Int) - 1))).size : Int) then (expand_Join.l0 k x0 (y109.set ((wrap64 ((y109.length : Int) - 1)) : Int).toNat ((rdOf ByteArray.empty y109 (wrap64 ((y109.length : Int) - 1))).extract 0 ((wrap64 (((rdOf ByteArray.empty y109 (wrap64 ((y109.length : Int) - 1))).size : Int) - 1)) : Int).toNat)) ((Int.tmod (wrap64 (((rdOf ByteArray.empty y109 (wrap64 ((y109.length : Int) - 1))).size : Int) - (t113.size : Int))) 2) == 1) x8 x9 (wrap64 (x10 + 1))) else (none)) else (none)) else (expand_Join.l0 k x0 y109 ((Int.tmod (wrap64 (((rdOf ByteArray.empty y109 (wrap64 ((y109.length : Int) - 1))).size : Int) - (t113.size : Int))) 2) == 1) x8 x9 (wrap64 (x10 + 1))))) else (expand_Join.l0 k x0 y109 false x8 x9 (wrap64 (x10 + 1)))) else (none)) else (none))) else (none))) else (none)) else (none)) else (some x3)
def expand_Join.f (k : Nat) (l0 : List ByteArray) : Option (List ByteArray) := expand_Join.l0 k l0 ([] : List ByteArray) false l0 (l0.length : Int) 0
theorem expand_Join.mono_l : ∀ k, (∀ y0 y1 y2 y3 y4 y5, LeO (expand_Join.l0 k y0 y1 y2 y3 y4 y5) (expand_Join.l0 (k + 1) y0 y1 y2 y3 y4 y5))
 | 0 => fun _ _ _ _ _ _ r h => by simp [expand_Join.l0] at h
 | k + 1 => by
  have ih0 := expand_Join.mono_l k
  ·intro y0 y1 y2 y3 y4 y5
   unfold expand_Join.l0
   repeat' first
   | (with_reducible exact ih0 _ _ _ _ _ _)
   | (with_reducible exact LeO.refl _)
   | (with_reducible exact LeO.none _)
   | (with_reducible refine LeO.ite ?_ ?_)
   | (with_reducible refine LeO.bind ?_ (fun _ => ?_))
   | exact ih0 _ _ _ _ _ _
   | exact LeO.none _
   | refine LeO.ite ?_ ?_
   | refine LeO.bind ?_ (fun _ => ?_)
theorem expand_Join.mono : ∀ a0 k, LeO (expand_Join.f k a0) (expand_Join.f (k + 1) a0) := by
 intro a0 k
 have ih0 := expand_Join.mono_l k
 unfold expand_Join.f
 repeat' first
   | (with_reducible exact ih0 _ _ _ _ _ _)
   | (with_reducible exact LeO.refl _)
   | (with_reducible exact LeO.none _)
   | (with_reducible refine LeO.ite ?_ ?_)
   | (with_reducible refine LeO.bind ?_ (fun _ => ?_))
   | exact ih0 _ _ _ _ _ _
   | exact LeO.none _
   | refine LeO.ite ?_ ?_
   | refine LeO.bind ?_ (fun _ => ?_)
set_option maxHeartbeats 8000000 in
set_option maxRecDepth 100000 in
theorem expand_Join.calls (k : Nat) (A0 : Option Addr) (c0 : Nat) (l0 : List ByteArray) (r : List ByteArray) (w : World) (hr0 : Kd.C Kd.string w A0 l0.length l0) (hc0 : l0.length ≤ c0) (h : expand_Join.f k l0 = some r) :
  Calls Tryd.prog 9 #[.slice A0 l0.length c0] w fun e w' => ∃ v0_ : Value, e = .returned (v0_) ∧ Kd.R Kd.string 9 w' w.heap.size (fun _ => True) v0_ r ∧ Below w.heap.size w w' := by
 have HR0 := Aside0.mk hr0
 have HC0 := Aside0.mk hc0
 clear hr0 hc0
 have HB := Aside0.mk (Below.refl w.heap.size w)
 have H : (expand_Join.l0 k l0 ([] : List ByteArray) false l0 (l0.length : Int) 0) = some r := h
 clear h
 have H' := Aside0.mk H
 clear H
 go_enter Tryd.func9, Tryd.ntmps9
 go_wp2
 go_loopg [3, 4, 10] k (fun kq v3 v4 v10 w' => ∃ (x3_1 : List ByteArray) (x4_1 : Bool) (x10_1 : Int), v4 = .bool x4_1 ∧ v10 = .int .i64 x10_1 ∧ Aside0 (expand_Join.l0 kq l0 x3_1 x4_1 l0 (l0.length : Int) x10_1 = some r) ∧ Aside0 (kq ≤ k) ∧ Aside0 (Kd.R Kd.string 9 w' w.heap.size (fun _ => True) v3 x3_1) ∧ Aside0 (Below w.heap.size w w'))
 case atStart => exact ⟨(([] : List ByteArray)), (false), (0), (by first | rfl | (simp; done) | (simp [*]; done)), (by first | rfl | (simp; done) | (simp [*]; done)), H', ⟨Nat.le_refl _⟩, ⟨by first | exact Kd.R_nil _ _ _ _ _ | exact Kd.N_nil _ _ _ _ _ | exact Kd.V_nil _ _ _ _ _ | exact Kd.Q_nil _ _ _ _ _ | exact Kd.S_nil _ _ _ _ _⟩, ⟨by repeat (first | (with_reducible first | exact HB.out | apply below_alloc | apply pw_below_drewN | apply below_drew1) | exact HB.out)⟩⟩
 case round =>
  clear H'
  obtain ⟨x3_1, x4_1, x10_1, rfl, rfl, HA, HK1, HO_3, HB⟩ := hrel
  cases gk with
  | zero => exact absurd HA.out (by simp [expand_Join.l0])
  | succ k1 =>
   have H := HA.out
   clear HA
   simp only [expand_Join.l0] at H
   by_cases c2 : x10_1 < (l0.length : Int)
   ·rw [if_pos c2] at H
    have c2b0 : decide (x10_1 < (l0.length : Int)) = true := decide_eq_true c2
    clear c2
    by_cases c3 : 0 ≤ x10_1
    ·rw [if_pos c3] at H
     have c3b0 : decide (0 ≤ x10_1) = true := decide_eq_true c3
     clear c3
     by_cases c4 : x10_1 < (l0.length : Int)
     ·rw [if_pos c4] at H
      have c4b0 : decide (x10_1 < (l0.length : Int)) = true := decide_eq_true c4
      clear c4
      by_cases c5 : x4_1 = true
      ·subst c5
       have H1 : (if 0 ≤ (wrap64 ((x3_1.length : Int) - 1)) then (if (wrap64 ((x3_1.length : Int) - 1)) < (x3_1.length : Int) then (if (rdOf ByteArray.empty x3_1 (wrap64 ((x3_1.length : Int) - 1))).size + (rdOf ByteArray.empty l0 x10_1).size ≤ 9223372036854775807 then ((some (x3_1.set ((wrap64 ((x3_1.length : Int) - 1)) : Int).toNat ((rdOf ByteArray.empty x3_1 (wrap64 ((x3_1.length : Int) - 1))) ++ (rdOf ByteArray.empty l0 x10_1)) : List ByteArray)).bind fun y105 => (if (wrap64 (x10_1 + 1)) < (l0.length : Int) then ((strings_TrimRight.f (rdOf ByteArray.empty y105 (wrap64 ((x3_1.length : Int) - 1))) (⟨#[92]⟩ : ByteArray)).bind fun t107 => (if (Int.tmod (wrap64 (((rdOf ByteArray.empty y105 (wrap64 ((x3_1.length : Int) - 1))).size : Int) - (t107.size : Int))) 2) = 1 then (if 0 ≤ (wrap64 (((rdOf ByteArray.empty y105 (wrap64 ((x3_1.length : Int) - 1))).size : Int) - 1)) then (if (wrap64 (((rdOf ByteArray.empty y105 (wrap64 ((x3_1.length : Int) - 1))).size : Int) - 1)) ≤ ((rdOf ByteArray.empty y105 (wrap64 ((x3_1.length : Int) - 1))).size : Int) then (expand_Join.l0 k1 l0 (y105.set ((wrap64 ((x3_1.length : Int) - 1)) : Int).toNat ((rdOf ByteArray.empty y105 (wrap64 ((x3_1.length : Int) - 1))).extract 0 ((wrap64 (((rdOf ByteArray.empty y105 (wrap64 ((x3_1.length : Int) - 1))).size : Int) - 1)) : Int).toNat)) ((Int.tmod (wrap64 (((rdOf ByteArray.empty y105 (wrap64 ((x3_1.length : Int) - 1))).size : Int) - (t107.size : Int))) 2) == 1) l0 (l0.length : Int) (wrap64 (x10_1 + 1))) else (none)) else (none)) else (expand_Join.l0 k1 l0 y105 ((Int.tmod (wrap64 (((rdOf ByteArray.empty y105 (wrap64 ((x3_1.length : Int) - 1))).size : Int) - (t107.size : Int))) 2) == 1) l0 (l0.length : Int) (wrap64 (x10_1 + 1))))) else (expand_Join.l0 k1 l0 y105 false l0 (l0.length : Int) (wrap64 (x10_1 + 1))))) else (none)) else (none)) else (none)) = some r := by rw [if_pos rfl] at H; exact H
       clear H
       have H := H1
       clear H1
       obtain ⟨ji6, hji6⟩ : ∃ j_ : Int, (wrap64 ((x3_1.length : Int) - 1)) = j_ := ⟨_, rfl⟩
       replace H : (if 0 ≤ (ji6) then (if (ji6) < (x3_1.length : Int) then (if (rdOf ByteArray.empty x3_1 (ji6)).size + (rdOf ByteArray.empty l0 x10_1).size ≤ 9223372036854775807 then ((some (x3_1.set ((ji6) : Int).toNat ((rdOf ByteArray.empty x3_1 (ji6)) ++ (rdOf ByteArray.empty l0 x10_1)) : List ByteArray)).bind fun y105 => (if (wrap64 (x10_1 + 1)) < (l0.length : Int) then ((strings_TrimRight.f (rdOf ByteArray.empty y105 (ji6)) (⟨#[92]⟩ : ByteArray)).bind fun t107 => (if (Int.tmod (wrap64 (((rdOf ByteArray.empty y105 (ji6)).size : Int) - (t107.size : Int))) 2) = 1 then (if 0 ≤ (wrap64 (((rdOf ByteArray.empty y105 (ji6)).size : Int) - 1)) then (if (wrap64 (((rdOf ByteArray.empty y105 (ji6)).size : Int) - 1)) ≤ ((rdOf ByteArray.empty y105 (ji6)).size : Int) then (expand_Join.l0 k1 l0 (y105.set ((ji6) : Int).toNat ((rdOf ByteArray.empty y105 (ji6)).extract 0 ((wrap64 (((rdOf ByteArray.empty y105 (ji6)).size : Int) - 1)) : Int).toNat)) ((Int.tmod (wrap64 (((rdOf ByteArray.empty y105 (ji6)).size : Int) - (t107.size : Int))) 2) == 1) l0 (l0.length : Int) (wrap64 (x10_1 + 1))) else (none)) else (none)) else (expand_Join.l0 k1 l0 y105 ((Int.tmod (wrap64 (((rdOf ByteArray.empty y105 (ji6)).size : Int) - (t107.size : Int))) 2) == 1) l0 (l0.length : Int) (wrap64 (x10_1 + 1))))) else (expand_Join.l0 k1 l0 y105 false l0 (l0.length : Int) (wrap64 (x10_1 + 1))))) else (none)) else (none)) else (none)) = some r := by first | (rw [hji6] at H; exact H) | (simp only [hji6] at H ⊢; exact H)
       have hji6w : (IntKind.i64.wrap ((x3_1.length : Int) - 1)) = ji6 := (i64_w _).trans hji6
       by_cases c7 : 0 ≤ (ji6)
       ·rw [if_pos c7] at H
        have c7b0 : decide (0 ≤ (ji6)) = true := decide_eq_true c7
        clear c7
        by_cases c8 : (ji6) < (x3_1.length : Int)
        ·rw [if_pos c8] at H
         have c8b0 : decide ((ji6) < (x3_1.length : Int)) = true := decide_eq_true c8
         clear c8
         by_cases c9 : (rdOf ByteArray.empty x3_1 (ji6)).size + (rdOf ByteArray.empty l0 x10_1).size ≤ 9223372036854775807
         ·rw [if_pos c9] at H
          have c9b0 := eq_true c9
          have c9b1 : decide ((rdOf ByteArray.empty x3_1 (ji6)).size + (rdOf ByteArray.empty l0 x10_1).size ≤ 9223372036854775807) = true := decide_eq_true c9
          try have c9b2 : (9223372036854775807 < (rdOf ByteArray.empty x3_1 (ji6)).size + (rdOf ByteArray.empty l0 x10_1).size) = False := eq_false (Nat.not_lt.2 c9)
          try (have c9y := c9; simp only [ByteArray.size_append, ByteArray.size_extract, bs0, bs1, bs2, bs3, bs4, bs5, bs6, bs7, bs8, bs9, bs10, bs11, bs12, bs13, bs14, bs15, bs16, bs17, bs18, bs19, bs20, bs21, bs22, bs23, bs24, bs25, bs26, bs27, bs28, bs29, bs30, bs31, bs32] at c9y; replace c9y := eq_false (Nat.not_lt.2 c9y))
          obtain ⟨sj10, hsj10⟩ : ∃ j_ : ByteArray, ((rdOf ByteArray.empty x3_1 (ji6)) ++ (rdOf ByteArray.empty l0 x10_1)) = j_ := ⟨_, rfl⟩
          replace H : ((some (x3_1.set ((ji6) : Int).toNat sj10 : List ByteArray)).bind fun y105 => (if (wrap64 (x10_1 + 1)) < (l0.length : Int) then ((strings_TrimRight.f (rdOf ByteArray.empty y105 (ji6)) (⟨#[92]⟩ : ByteArray)).bind fun t107 => (if (Int.tmod (wrap64 (((rdOf ByteArray.empty y105 (ji6)).size : Int) - (t107.size : Int))) 2) = 1 then (if 0 ≤ (wrap64 (((rdOf ByteArray.empty y105 (ji6)).size : Int) - 1)) then (if (wrap64 (((rdOf ByteArray.empty y105 (ji6)).size : Int) - 1)) ≤ ((rdOf ByteArray.empty y105 (ji6)).size : Int) then (expand_Join.l0 k1 l0 (y105.set ((ji6) : Int).toNat ((rdOf ByteArray.empty y105 (ji6)).extract 0 ((wrap64 (((rdOf ByteArray.empty y105 (ji6)).size : Int) - 1)) : Int).toNat)) ((Int.tmod (wrap64 (((rdOf ByteArray.empty y105 (ji6)).size : Int) - (t107.size : Int))) 2) == 1) l0 (l0.length : Int) (wrap64 (x10_1 + 1))) else (none)) else (none)) else (expand_Join.l0 k1 l0 y105 ((Int.tmod (wrap64 (((rdOf ByteArray.empty y105 (ji6)).size : Int) - (t107.size : Int))) 2) == 1) l0 (l0.length : Int) (wrap64 (x10_1 + 1))))) else (expand_Join.l0 k1 l0 y105 false l0 (l0.length : Int) (wrap64 (x10_1 + 1))))) = some r := by first | (rw [hsj10] at H; exact H) | (simp only [hsj10] at H ⊢; exact H) | exact H
          obtain ⟨y105, hy105⟩ : ∃ y_ : List ByteArray, y_ = (x3_1.set ((ji6) : Int).toNat sj10) := ⟨_, rfl⟩
          replace H : (if (wrap64 (x10_1 + 1)) < (l0.length : Int) then ((strings_TrimRight.f (rdOf ByteArray.empty y105 (ji6)) (⟨#[92]⟩ : ByteArray)).bind fun t107 => (if (Int.tmod (wrap64 (((rdOf ByteArray.empty y105 (ji6)).size : Int) - (t107.size : Int))) 2) = 1 then (if 0 ≤ (wrap64 (((rdOf ByteArray.empty y105 (ji6)).size : Int) - 1)) then (if (wrap64 (((rdOf ByteArray.empty y105 (ji6)).size : Int) - 1)) ≤ ((rdOf ByteArray.empty y105 (ji6)).size : Int) then (expand_Join.l0 k1 l0 (y105.set ((ji6) : Int).toNat ((rdOf ByteArray.empty y105 (ji6)).extract 0 ((wrap64 (((rdOf ByteArray.empty y105 (ji6)).size : Int) - 1)) : Int).toNat)) ((Int.tmod (wrap64 (((rdOf ByteArray.empty y105 (ji6)).size : Int) - (t107.size : Int))) 2) == 1) l0 (l0.length : Int) (wrap64 (x10_1 + 1))) else (none)) else (none)) else (expand_Join.l0 k1 l0 y105 ((Int.tmod (wrap64 (((rdOf ByteArray.empty y105 (ji6)).size : Int) - (t107.size : Int))) 2) == 1) l0 (l0.length : Int) (wrap64 (x10_1 + 1))))) else (expand_Join.l0 k1 l0 y105 false l0 (l0.length : Int) (wrap64 (x10_1 + 1)))) = some r := by first | (rw [hy105]; with_reducible exact H) | (have H2_ := (Option.bind_some _ _).symm.trans H; rw [hy105]; with_reducible exact H2_) | (have H2_ := (Option.bind_some _ _).symm.trans H; with_reducible exact H2_) | with_reducible exact H | (rw [hy105]; exact H) | exact H
          have Ny105 := Aside0.mk hy105
          clear hy105
          by_cases c12 : (wrap64 (x10_1 + 1)) < (l0.length : Int)
          ·rw [if_pos c12] at H
           have c12b0 : decide ((wrap64 (x10_1 + 1)) < (l0.length : Int)) = true := decide_eq_true c12
           clear c12
           replace H := Option.bind_eq_some_iff.mp H
           obtain ⟨t107, A130, H⟩ := H
           replace H : (if (Int.tmod (wrap64 (((rdOf ByteArray.empty y105 (ji6)).size : Int) - (t107.size : Int))) 2) = 1 then (if 0 ≤ (wrap64 (((rdOf ByteArray.empty y105 (ji6)).size : Int) - 1)) then (if (wrap64 (((rdOf ByteArray.empty y105 (ji6)).size : Int) - 1)) ≤ ((rdOf ByteArray.empty y105 (ji6)).size : Int) then (expand_Join.l0 k1 l0 (y105.set ((ji6) : Int).toNat ((rdOf ByteArray.empty y105 (ji6)).extract 0 ((wrap64 (((rdOf ByteArray.empty y105 (ji6)).size : Int) - 1)) : Int).toNat)) ((Int.tmod (wrap64 (((rdOf ByteArray.empty y105 (ji6)).size : Int) - (t107.size : Int))) 2) == 1) l0 (l0.length : Int) (wrap64 (x10_1 + 1))) else (none)) else (none)) else (expand_Join.l0 k1 l0 y105 ((Int.tmod (wrap64 (((rdOf ByteArray.empty y105 (ji6)).size : Int) - (t107.size : Int))) 2) == 1) l0 (l0.length : Int) (wrap64 (x10_1 + 1)))) = some r := H
           have A13 := Aside0.mk A130
           clear A130
           by_cases c14 : (Int.tmod (wrap64 (((rdOf ByteArray.empty y105 (ji6)).size : Int) - (t107.size : Int))) 2) = 1
           ·rw [if_pos c14] at H
            have c14b0 : ((Int.tmod (wrap64 (((rdOf ByteArray.empty y105 (ji6)).size : Int) - (t107.size : Int))) 2) == 1) = true := beq_iff_eq.mpr c14
            have c14b1 : ((Int.tmod (wrap64 (((rdOf ByteArray.empty y105 (ji6)).size : Int) - (t107.size : Int))) 2) != 1) = false := bne_eq_false_iff_eq.mpr c14
            clear c14
            obtain ⟨ji15, hji15⟩ : ∃ j_ : Int, (wrap64 (((rdOf ByteArray.empty y105 (ji6)).size : Int) - 1)) = j_ := ⟨_, rfl⟩
            replace H : (if 0 ≤ (ji15) then (if (ji15) ≤ ((rdOf ByteArray.empty y105 (ji6)).size : Int) then (expand_Join.l0 k1 l0 (y105.set ((ji6) : Int).toNat ((rdOf ByteArray.empty y105 (ji6)).extract 0 ((ji15) : Int).toNat)) ((Int.tmod (wrap64 (((rdOf ByteArray.empty y105 (ji6)).size : Int) - (t107.size : Int))) 2) == 1) l0 (l0.length : Int) (wrap64 (x10_1 + 1))) else (none)) else (none)) = some r := by first | (rw [hji15] at H; exact H) | (simp only [hji15] at H ⊢; exact H)
            (try rw [hji15] at A13)
            have hji15w : (IntKind.i64.wrap (((rdOf ByteArray.empty y105 (ji6)).size : Int) - 1)) = ji15 := (i64_w _).trans hji15
            by_cases c16 : 0 ≤ (ji15)
            ·rw [if_pos c16] at H
             have c16b0 := eq_true c16
             have c16b1 : decide (0 ≤ (ji15)) = true := decide_eq_true c16
             clear c16
             by_cases c17 : (ji15) ≤ ((rdOf ByteArray.empty y105 (ji6)).size : Int)
             ·rw [if_pos c17] at H
              have c17b0 := eq_true c17
              have c17b1 : decide ((ji15) ≤ ((rdOf ByteArray.empty y105 (ji6)).size : Int)) = true := decide_eq_true c17
              clear c17
              obtain ⟨sj18, hsj18⟩ : ∃ j_ : ByteArray, ((rdOf ByteArray.empty y105 (ji6)).extract 0 ((ji15) : Int).toNat) = j_ := ⟨_, rfl⟩
              replace H : (expand_Join.l0 k1 l0 (y105.set ((ji6) : Int).toNat sj18) ((Int.tmod (wrap64 (((rdOf ByteArray.empty y105 (ji6)).size : Int) - (t107.size : Int))) 2) == 1) l0 (l0.length : Int) (wrap64 (x10_1 + 1))) = some r := by first | (rw [hsj18] at H; exact H) | (simp only [hsj18] at H ⊢; exact H) | exact H
              (try rw [hsj18] at A13)
              obtain ⟨y108, hy108⟩ : ∃ y_ : List ByteArray, y_ = (y105.set ((ji6) : Int).toNat sj18) := ⟨_, rfl⟩
              replace H : (expand_Join.l0 k1 l0 y108 ((Int.tmod (wrap64 (((rdOf ByteArray.empty y105 (ji6)).size : Int) - (t107.size : Int))) 2) == 1) l0 (l0.length : Int) (wrap64 (x10_1 + 1))) = some r := by first | (rw [hy108]; with_reducible exact H) | (have H2_ := (Option.bind_some _ _).symm.trans H; rw [hy108]; with_reducible exact H2_) | (have H2_ := (Option.bind_some _ _).symm.trans H; with_reducible exact H2_) | with_reducible exact H | (rw [hy108]; exact H) | exact H
              have Ny108 := Aside0.mk hy108
              clear hy108
              have H' := Aside0.mk H
              clear H
              have p103 : 0 ≤ (x10_1 : Int) := of_decide_eq_true (by first | (with_reducible assumption) | assumption)
              have q103 : x10_1 < (l0.length : Int) := of_decide_eq_true (by first | (with_reducible assumption) | assumption)
              obtain ⟨ad103, e103, hx103_0⟩ := Kd.at_string HR0.out x10_1 p103 q103
              cases e103
              replace hx103_0 := (HB.out.cell (World.block_lt_of_cell? w _ hx103_0)).trans hx103_0
              replace p103 := eq_true p103
              replace q103 := eq_true q103
              obtain ⟨Ao20, co20, eo20⟩ := Kd.R_slice HO_3.out
              subst eo20
              have p104 : 0 ≤ ((ji6) : Int) := of_decide_eq_true (by first | (with_reducible assumption) | assumption)
              have q104 : (ji6) < (x3_1.length : Int) := of_decide_eq_true (by first | (with_reducible assumption) | assumption)
              obtain ⟨ad104, e104, hx104_0⟩ := Kd.at_string (Kd.R_reads' HO_3.out).2.2 (ji6) p104 q104
              cases e104
              replace p104 := eq_true p104
              replace q104 := eq_true q104
              have p11 : 0 ≤ ((ji6) : Int) := of_decide_eq_true (by first | (with_reducible assumption) | assumption)
              have q11 : ((ji6) : Int) < ((x3_1.length : Int) : Int) := of_decide_eq_true (by first | (with_reducible assumption) | assumption)
              obtain ⟨go11, co11, eo11, gb11, gl11, cl11, HG11⟩ := Kd.R_form HO_3.out (by omega)
              (first | cases eo11 | (injection eo11 with ea_ en_ ec_; (first | subst ea_ | (injection ea_ with ea_; subst ea_)); subst ec_; clear en_))
              have GB11 := Aside0.mk gb11
              have GG11 := Aside0.mk HG11
              clear gb11 gl11 HG11
              (first | simp only [add_plain] at hx104_0 | skip)
              obtain ⟨hx11_0, hf11_0⟩ := Kd.R_celln (⟨#[]⟩ : ByteArray) HO_3.out ((ji6) : Int) p11 q11
              replace p11 := eq_true p11
              replace q11 := eq_true q11
              have HP21 := Kd.R_putg HO_3.out ((ji6) : Int) sj10
              go_wp2_with (first | ((with_reducible refine gate_store (t := 9) (p := 24) rfl ?_); refine store_event (t := 9) (p := 24) (v := ?vo_w22) (w1 := (wr.setCell ⟨go11, ((ji6) : Int).toNat, none⟩ (.string sj10))) ?hg ?ho ?hn ?hr ?_; (case ho => rfl); (case hg => rfl); (case hn => rfl); (case hr => first | (go_simp; done) | (go_simp; rfl)); intro w22 hw; have hg : wr.grownBy w22 (some go11) := (by rw [hw]; exact HP21.2); have hp_ : Kd.R Kd.string 9 w22 w.heap.size (fun _ => True) (.slice (some ⟨go11, 0, none⟩) x3_1.length co20) y105 := (by rw [hw, Ny105.out]; exact HP21.1); clear HP21; have n0_ := Aside0.mk (hp_); have n1_ := Aside0.mk ((by rw [hw]; exact below_set (HB.out) GB11.out : Below w.heap.size w w22)); clear HO_3; clear HB; have HO_3 := n0_; have HB := n1_; clear n0_ n1_; clear hg hw hp_; have p106 : 0 ≤ ((ji6) : Int) := of_decide_eq_true (by first | (with_reducible assumption) | assumption); have q106 : (ji6) < (y105.length : Int) := (by have h_ : ((ji6) : Int) < ((x3_1.length : Int) : Int) := of_decide_eq_true (by first | (with_reducible assumption) | assumption); first | (have e_ := (Kd.R_reads' HO_3.out).1; omega) | simpa only [Ny105.out, List.length_set] using h_); have ql106 : (((ji6) : Int) < ((x3_1.length : Int) : Int)) = True := eq_true (of_decide_eq_true (by first | (with_reducible assumption) | assumption)); obtain ⟨ad106, e106, hx106_0⟩ := Kd.at_string (Kd.R_reads' HO_3.out).2.2 (ji6) p106 q106; obtain rfl : (⟨go11, 0, none⟩ : Addr) = ad106 := (by injection e106); (first | simp only [add_plain] at hx106_0 | simp only [add_at] at hx106_0 | simp only [Addr.add, Nat.zero_add] at hx106_0 | skip); replace p106 := eq_true p106; replace q106 := eq_true q106) | (go_at_call 19; (with_reducible refine (strings_TrimRight.calls (rdOf ByteArray.empty y105 (ji6)) (⟨#[92]⟩ : ByteArray) t107 _ A13.out).mono ?_); rintro e w' ⟨rfl, ⟨nd, rfl⟩⟩; (try (rw [drewN_self w22]; generalize hq_ : World.drewN w22 _ = w22; have n0_ : Aside0 (Kd.R Kd.string 9 w22 w.heap.size (fun _ => True) (.slice (some ⟨go11, 0, none⟩) x3_1.length co20) y105) := ⟨by rw [← hq_]; exact (by (with_reducible repeat (first | apply Kd.R_alloc | apply Kd.R_drewN | apply Kd.R_drew)); exact HO_3.out)⟩; have n1_ : Aside0 (Below w.heap.size w w22) := ⟨by rw [← hq_]; exact (by repeat (first | (with_reducible first | exact HB.out | apply below_alloc | apply pw_below_drewN | apply below_drew1) | exact HB.out))⟩; clear HO_3 HB hq_; have HO_3 := n0_; have HB := n1_; clear n0_ n1_)); have p19 : 0 ≤ ((ji6) : Int) := of_decide_eq_true (by first | (with_reducible assumption) | assumption); have q19 : ((ji6) : Int) < ((x3_1.length : Int) : Int) := of_decide_eq_true (by first | (with_reducible assumption) | assumption); obtain ⟨hx19_0, hf19_0⟩ := Kd.R_celln (⟨#[]⟩ : ByteArray) HO_3.out ((ji6) : Int) p19 q19; replace p19 := eq_true p19; replace q19 := eq_true q19; obtain ⟨hy23_, hz23_⟩ := Kd.R_celln (⟨#[]⟩ : ByteArray) HO_3.out ((ji6) : Int) (of_decide_eq_true (by first | (with_reducible assumption) | assumption)) (of_decide_eq_true (by first | (with_reducible assumption) | assumption)); have HP23 := Kd.R_putg HO_3.out ((ji6) : Int) sj18) | ((with_reducible refine gate_store (t := 9) (p := 60) rfl ?_); refine store_event (t := 9) (p := 60) (v := ?vo_w24) (w1 := (w22.setCell ⟨go11, ((ji6) : Int).toNat, none⟩ (.string sj18))) ?hg ?ho ?hn ?hr ?_; (case ho => rfl); (case hg => rfl); (case hn => rfl); (case hr => first | (go_simp; done) | (go_simp; rfl)); intro w24 hw; have hg : w22.grownBy w24 (some go11) := (by rw [hw]; exact HP23.2); have hp_ : Kd.R Kd.string 9 w24 w.heap.size (fun _ => True) (.slice (some ⟨go11, 0, none⟩) x3_1.length co20) y108 := (by rw [hw, Ny108.out]; exact HP23.1); clear HP23; have n0_ := Aside0.mk (hp_); have n1_ := Aside0.mk ((by rw [hw]; exact below_set (HB.out) GB11.out : Below w.heap.size w w24)); clear HO_3; clear HB; have HO_3 := n0_; have HB := n1_; clear n0_ n1_; clear hg hw hp_))
              go_roundg k1
              case measure => have := HK1.out; omega
              case rel => exact ⟨(y108), (((Int.tmod (wrap64 (((rdOf ByteArray.empty y105 (ji6)).size : Int) - (t107.size : Int))) 2) == 1)), (wrap64 (x10_1 + 1)), (by first | rfl | (exact congrArg Value.bool (Eq.symm (by with_reducible assumption))) | (simp; done) | (simp only [← hji6] <;> (first | rfl | (simp; done))) | (simp [*]; done)), (by first | rfl | (simp; done) | (simp [*]; done)), H', ⟨by have := HK1.out; omega⟩, ⟨by (with_reducible repeat (first | apply Kd.R_alloc | apply Kd.R_drewN | apply Kd.R_drew)); exact HO_3.out⟩, ⟨by repeat (first | (with_reducible first | exact HB.out | apply below_alloc | apply pw_below_drewN | apply below_drew1) | exact HB.out)⟩⟩
             ·rw [if_neg c17] at H
              exact absurd H (by simp)
            ·rw [if_neg c16] at H
             exact absurd H (by simp)
           ·rw [if_neg c14] at H
            have c14b0 : ((Int.tmod (wrap64 (((rdOf ByteArray.empty y105 (ji6)).size : Int) - (t107.size : Int))) 2) == 1) = false := beq_eq_false_iff_ne.mpr c14
            have c14b1 : ((Int.tmod (wrap64 (((rdOf ByteArray.empty y105 (ji6)).size : Int) - (t107.size : Int))) 2) != 1) = true := bne_iff_ne.mpr c14
            have H' := Aside0.mk H
            clear H
            have p103 : 0 ≤ (x10_1 : Int) := of_decide_eq_true (by first | (with_reducible assumption) | assumption)
            have q103 : x10_1 < (l0.length : Int) := of_decide_eq_true (by first | (with_reducible assumption) | assumption)
            obtain ⟨ad103, e103, hx103_0⟩ := Kd.at_string HR0.out x10_1 p103 q103
            cases e103
            replace hx103_0 := (HB.out.cell (World.block_lt_of_cell? w _ hx103_0)).trans hx103_0
            replace p103 := eq_true p103
            replace q103 := eq_true q103
            obtain ⟨Ao25, co25, eo25⟩ := Kd.R_slice HO_3.out
            subst eo25
            have p104 : 0 ≤ ((ji6) : Int) := of_decide_eq_true (by first | (with_reducible assumption) | assumption)
            have q104 : (ji6) < (x3_1.length : Int) := of_decide_eq_true (by first | (with_reducible assumption) | assumption)
            obtain ⟨ad104, e104, hx104_0⟩ := Kd.at_string (Kd.R_reads' HO_3.out).2.2 (ji6) p104 q104
            cases e104
            replace p104 := eq_true p104
            replace q104 := eq_true q104
            have p11 : 0 ≤ ((ji6) : Int) := of_decide_eq_true (by first | (with_reducible assumption) | assumption)
            have q11 : ((ji6) : Int) < ((x3_1.length : Int) : Int) := of_decide_eq_true (by first | (with_reducible assumption) | assumption)
            obtain ⟨go11, co11, eo11, gb11, gl11, cl11, HG11⟩ := Kd.R_form HO_3.out (by omega)
            (first | cases eo11 | (injection eo11 with ea_ en_ ec_; (first | subst ea_ | (injection ea_ with ea_; subst ea_)); subst ec_; clear en_))
            have GB11 := Aside0.mk gb11
            have GG11 := Aside0.mk HG11
            clear gb11 gl11 HG11
            (first | simp only [add_plain] at hx104_0 | skip)
            obtain ⟨hx11_0, hf11_0⟩ := Kd.R_celln (⟨#[]⟩ : ByteArray) HO_3.out ((ji6) : Int) p11 q11
            replace p11 := eq_true p11
            replace q11 := eq_true q11
            have HP26 := Kd.R_putg HO_3.out ((ji6) : Int) sj10
            go_wp2_with (first | ((with_reducible refine gate_store (t := 9) (p := 24) rfl ?_); refine store_event (t := 9) (p := 24) (v := ?vo_w27) (w1 := (wr.setCell ⟨go11, ((ji6) : Int).toNat, none⟩ (.string sj10))) ?hg ?ho ?hn ?hr ?_; (case ho => rfl); (case hg => rfl); (case hn => rfl); (case hr => first | (go_simp; done) | (go_simp; rfl)); intro w27 hw; have hg : wr.grownBy w27 (some go11) := (by rw [hw]; exact HP26.2); have hp_ : Kd.R Kd.string 9 w27 w.heap.size (fun _ => True) (.slice (some ⟨go11, 0, none⟩) x3_1.length co25) y105 := (by rw [hw, Ny105.out]; exact HP26.1); clear HP26; have n0_ := Aside0.mk (hp_); have n1_ := Aside0.mk ((by rw [hw]; exact below_set (HB.out) GB11.out : Below w.heap.size w w27)); clear HO_3; clear HB; have HO_3 := n0_; have HB := n1_; clear n0_ n1_; clear hg hw hp_; have p106 : 0 ≤ ((ji6) : Int) := of_decide_eq_true (by first | (with_reducible assumption) | assumption); have q106 : (ji6) < (y105.length : Int) := (by have h_ : ((ji6) : Int) < ((x3_1.length : Int) : Int) := of_decide_eq_true (by first | (with_reducible assumption) | assumption); first | (have e_ := (Kd.R_reads' HO_3.out).1; omega) | simpa only [Ny105.out, List.length_set] using h_); have ql106 : (((ji6) : Int) < ((x3_1.length : Int) : Int)) = True := eq_true (of_decide_eq_true (by first | (with_reducible assumption) | assumption)); obtain ⟨ad106, e106, hx106_0⟩ := Kd.at_string (Kd.R_reads' HO_3.out).2.2 (ji6) p106 q106; obtain rfl : (⟨go11, 0, none⟩ : Addr) = ad106 := (by injection e106); (first | simp only [add_plain] at hx106_0 | simp only [add_at] at hx106_0 | simp only [Addr.add, Nat.zero_add] at hx106_0 | skip); replace p106 := eq_true p106; replace q106 := eq_true q106) | (go_at_call 19; (with_reducible refine (strings_TrimRight.calls (rdOf ByteArray.empty y105 (ji6)) (⟨#[92]⟩ : ByteArray) t107 _ A13.out).mono ?_); rintro e w' ⟨rfl, ⟨nd, rfl⟩⟩))
            go_roundg k1
            case measure => have := HK1.out; omega
            case rel => exact ⟨(y105), (((Int.tmod (wrap64 (((rdOf ByteArray.empty y105 (ji6)).size : Int) - (t107.size : Int))) 2) == 1)), (wrap64 (x10_1 + 1)), (by first | rfl | (exact congrArg Value.bool (Eq.symm (by with_reducible assumption))) | (simp; done) | (simp only [← hji6] <;> (first | rfl | (simp; done))) | (simp [*]; done)), (by first | rfl | (simp; done) | (simp [*]; done)), H', ⟨by have := HK1.out; omega⟩, ⟨by (with_reducible repeat (first | apply Kd.R_alloc | apply Kd.R_drewN | apply Kd.R_drew)); exact HO_3.out⟩, ⟨by repeat (first | (with_reducible first | exact HB.out | apply below_alloc | apply pw_below_drewN | apply below_drew1) | exact HB.out)⟩⟩
          ·rw [if_neg c12] at H
           have c12b0 : decide ((wrap64 (x10_1 + 1)) < (l0.length : Int)) = false := decide_eq_false c12
           clear c12
           have H' := Aside0.mk H
           clear H
           have p103 : 0 ≤ (x10_1 : Int) := of_decide_eq_true (by first | (with_reducible assumption) | assumption)
           have q103 : x10_1 < (l0.length : Int) := of_decide_eq_true (by first | (with_reducible assumption) | assumption)
           obtain ⟨ad103, e103, hx103_0⟩ := Kd.at_string HR0.out x10_1 p103 q103
           cases e103
           replace hx103_0 := (HB.out.cell (World.block_lt_of_cell? w _ hx103_0)).trans hx103_0
           replace p103 := eq_true p103
           replace q103 := eq_true q103
           obtain ⟨Ao28, co28, eo28⟩ := Kd.R_slice HO_3.out
           subst eo28
           have p104 : 0 ≤ ((ji6) : Int) := of_decide_eq_true (by first | (with_reducible assumption) | assumption)
           have q104 : (ji6) < (x3_1.length : Int) := of_decide_eq_true (by first | (with_reducible assumption) | assumption)
           obtain ⟨ad104, e104, hx104_0⟩ := Kd.at_string (Kd.R_reads' HO_3.out).2.2 (ji6) p104 q104
           cases e104
           replace p104 := eq_true p104
           replace q104 := eq_true q104
           have p11 : 0 ≤ ((ji6) : Int) := of_decide_eq_true (by first | (with_reducible assumption) | assumption)
           have q11 : ((ji6) : Int) < ((x3_1.length : Int) : Int) := of_decide_eq_true (by first | (with_reducible assumption) | assumption)
           obtain ⟨go11, co11, eo11, gb11, gl11, cl11, HG11⟩ := Kd.R_form HO_3.out (by omega)
           (first | cases eo11 | (injection eo11 with ea_ en_ ec_; (first | subst ea_ | (injection ea_ with ea_; subst ea_)); subst ec_; clear en_))
           have GB11 := Aside0.mk gb11
           have GG11 := Aside0.mk HG11
           clear gb11 gl11 HG11
           (first | simp only [add_plain] at hx104_0 | skip)
           obtain ⟨hx11_0, hf11_0⟩ := Kd.R_celln (⟨#[]⟩ : ByteArray) HO_3.out ((ji6) : Int) p11 q11
           replace p11 := eq_true p11
           replace q11 := eq_true q11
           have HP29 := Kd.R_putg HO_3.out ((ji6) : Int) sj10
           go_wp2_with (first | ((with_reducible refine gate_store (t := 9) (p := 24) rfl ?_); refine store_event (t := 9) (p := 24) (v := ?vo_w30) (w1 := (wr.setCell ⟨go11, ((ji6) : Int).toNat, none⟩ (.string sj10))) ?hg ?ho ?hn ?hr ?_; (case ho => rfl); (case hg => rfl); (case hn => rfl); (case hr => first | (go_simp; done) | (go_simp; rfl)); intro w30 hw; have hg : wr.grownBy w30 (some go11) := (by rw [hw]; exact HP29.2); have hp_ : Kd.R Kd.string 9 w30 w.heap.size (fun _ => True) (.slice (some ⟨go11, 0, none⟩) x3_1.length co28) y105 := (by rw [hw, Ny105.out]; exact HP29.1); clear HP29; have n0_ := Aside0.mk (hp_); have n1_ := Aside0.mk ((by rw [hw]; exact below_set (HB.out) GB11.out : Below w.heap.size w w30)); clear HO_3; clear HB; have HO_3 := n0_; have HB := n1_; clear n0_ n1_; clear hg hw hp_; have p106 : 0 ≤ ((ji6) : Int) := of_decide_eq_true (by first | (with_reducible assumption) | assumption); have q106 : (ji6) < (y105.length : Int) := (by have h_ : ((ji6) : Int) < ((x3_1.length : Int) : Int) := of_decide_eq_true (by first | (with_reducible assumption) | assumption); first | (have e_ := (Kd.R_reads' HO_3.out).1; omega) | simpa only [Ny105.out, List.length_set] using h_); have ql106 : (((ji6) : Int) < ((x3_1.length : Int) : Int)) = True := eq_true (of_decide_eq_true (by first | (with_reducible assumption) | assumption)); obtain ⟨ad106, e106, hx106_0⟩ := Kd.at_string (Kd.R_reads' HO_3.out).2.2 (ji6) p106 q106; obtain rfl : (⟨go11, 0, none⟩ : Addr) = ad106 := (by injection e106); (first | simp only [add_plain] at hx106_0 | simp only [add_at] at hx106_0 | simp only [Addr.add, Nat.zero_add] at hx106_0 | skip); replace p106 := eq_true p106; replace q106 := eq_true q106))
           go_roundg k1
           case measure => have := HK1.out; omega
           case rel => exact ⟨(y105), (false), (wrap64 (x10_1 + 1)), (by first | rfl | (simp; done) | (simp [*]; done)), (by first | rfl | (simp; done) | (simp [*]; done)), H', ⟨by have := HK1.out; omega⟩, ⟨by (with_reducible repeat (first | apply Kd.R_alloc | apply Kd.R_drewN | apply Kd.R_drew)); exact HO_3.out⟩, ⟨by repeat (first | (with_reducible first | exact HB.out | apply below_alloc | apply pw_below_drewN | apply below_drew1) | exact HB.out)⟩⟩
         ·rw [if_neg c9] at H
          exact absurd H (by simp)
        ·rw [if_neg c8] at H
         exact absurd H (by simp)
       ·rw [if_neg c7] at H
        exact absurd H (by simp)
      ·replace c5 := Bool.eq_false_iff.mpr c5
       subst c5
       have H1 : (if x3_1.length < 8796093022208 then ((some (x3_1 ++ [rdOf ByteArray.empty l0 x10_1] : List ByteArray)).bind fun y109 => (if 0 ≤ (wrap64 ((y109.length : Int) - 1)) then (if (wrap64 ((y109.length : Int) - 1)) < (y109.length : Int) then (if (wrap64 (x10_1 + 1)) < (l0.length : Int) then ((strings_TrimRight.f (rdOf ByteArray.empty y109 (wrap64 ((y109.length : Int) - 1))) (⟨#[92]⟩ : ByteArray)).bind fun t113 => (if (Int.tmod (wrap64 (((rdOf ByteArray.empty y109 (wrap64 ((y109.length : Int) - 1))).size : Int) - (t113.size : Int))) 2) = 1 then (if 0 ≤ (wrap64 (((rdOf ByteArray.empty y109 (wrap64 ((y109.length : Int) - 1))).size : Int) - 1)) then (if (wrap64 (((rdOf ByteArray.empty y109 (wrap64 ((y109.length : Int) - 1))).size : Int) - 1)) ≤ ((rdOf ByteArray.empty y109 (wrap64 ((y109.length : Int) - 1))).size : Int) then (expand_Join.l0 k1 l0 (y109.set ((wrap64 ((y109.length : Int) - 1)) : Int).toNat ((rdOf ByteArray.empty y109 (wrap64 ((y109.length : Int) - 1))).extract 0 ((wrap64 (((rdOf ByteArray.empty y109 (wrap64 ((y109.length : Int) - 1))).size : Int) - 1)) : Int).toNat)) ((Int.tmod (wrap64 (((rdOf ByteArray.empty y109 (wrap64 ((y109.length : Int) - 1))).size : Int) - (t113.size : Int))) 2) == 1) l0 (l0.length : Int) (wrap64 (x10_1 + 1))) else (none)) else (none)) else (expand_Join.l0 k1 l0 y109 ((Int.tmod (wrap64 (((rdOf ByteArray.empty y109 (wrap64 ((y109.length : Int) - 1))).size : Int) - (t113.size : Int))) 2) == 1) l0 (l0.length : Int) (wrap64 (x10_1 + 1))))) else (expand_Join.l0 k1 l0 y109 false l0 (l0.length : Int) (wrap64 (x10_1 + 1)))) else (none)) else (none))) else (none)) = some r := by rw [if_neg (show ¬ (false = true) by decide)] at H; exact H
       clear H
       have H := H1
       clear H1
       by_cases c31 : x3_1.length < 8796093022208
       ·rw [if_pos c31] at H
        have LMc31 := Aside0.mk c31
        clear c31
        obtain ⟨y109, hy109⟩ : ∃ y_ : List ByteArray, y_ = (x3_1 ++ [rdOf ByteArray.empty l0 x10_1]) := ⟨_, rfl⟩
        replace H : (if 0 ≤ (wrap64 ((y109.length : Int) - 1)) then (if (wrap64 ((y109.length : Int) - 1)) < (y109.length : Int) then (if (wrap64 (x10_1 + 1)) < (l0.length : Int) then ((strings_TrimRight.f (rdOf ByteArray.empty y109 (wrap64 ((y109.length : Int) - 1))) (⟨#[92]⟩ : ByteArray)).bind fun t113 => (if (Int.tmod (wrap64 (((rdOf ByteArray.empty y109 (wrap64 ((y109.length : Int) - 1))).size : Int) - (t113.size : Int))) 2) = 1 then (if 0 ≤ (wrap64 (((rdOf ByteArray.empty y109 (wrap64 ((y109.length : Int) - 1))).size : Int) - 1)) then (if (wrap64 (((rdOf ByteArray.empty y109 (wrap64 ((y109.length : Int) - 1))).size : Int) - 1)) ≤ ((rdOf ByteArray.empty y109 (wrap64 ((y109.length : Int) - 1))).size : Int) then (expand_Join.l0 k1 l0 (y109.set ((wrap64 ((y109.length : Int) - 1)) : Int).toNat ((rdOf ByteArray.empty y109 (wrap64 ((y109.length : Int) - 1))).extract 0 ((wrap64 (((rdOf ByteArray.empty y109 (wrap64 ((y109.length : Int) - 1))).size : Int) - 1)) : Int).toNat)) ((Int.tmod (wrap64 (((rdOf ByteArray.empty y109 (wrap64 ((y109.length : Int) - 1))).size : Int) - (t113.size : Int))) 2) == 1) l0 (l0.length : Int) (wrap64 (x10_1 + 1))) else (none)) else (none)) else (expand_Join.l0 k1 l0 y109 ((Int.tmod (wrap64 (((rdOf ByteArray.empty y109 (wrap64 ((y109.length : Int) - 1))).size : Int) - (t113.size : Int))) 2) == 1) l0 (l0.length : Int) (wrap64 (x10_1 + 1))))) else (expand_Join.l0 k1 l0 y109 false l0 (l0.length : Int) (wrap64 (x10_1 + 1)))) else (none)) else (none)) = some r := by first | (rw [hy109]; with_reducible exact H) | (have H2_ := (Option.bind_some _ _).symm.trans H; rw [hy109]; with_reducible exact H2_) | (have H2_ := (Option.bind_some _ _).symm.trans H; with_reducible exact H2_) | with_reducible exact H | (rw [hy109]; exact H) | exact H
        have Ny109 := Aside0.mk hy109
        clear hy109
        obtain ⟨ji32, hji32⟩ : ∃ j_ : Int, (wrap64 ((y109.length : Int) - 1)) = j_ := ⟨_, rfl⟩
        replace H : (if 0 ≤ (ji32) then (if (ji32) < (y109.length : Int) then (if (wrap64 (x10_1 + 1)) < (l0.length : Int) then ((strings_TrimRight.f (rdOf ByteArray.empty y109 (ji32)) (⟨#[92]⟩ : ByteArray)).bind fun t113 => (if (Int.tmod (wrap64 (((rdOf ByteArray.empty y109 (ji32)).size : Int) - (t113.size : Int))) 2) = 1 then (if 0 ≤ (wrap64 (((rdOf ByteArray.empty y109 (ji32)).size : Int) - 1)) then (if (wrap64 (((rdOf ByteArray.empty y109 (ji32)).size : Int) - 1)) ≤ ((rdOf ByteArray.empty y109 (ji32)).size : Int) then (expand_Join.l0 k1 l0 (y109.set ((ji32) : Int).toNat ((rdOf ByteArray.empty y109 (ji32)).extract 0 ((wrap64 (((rdOf ByteArray.empty y109 (ji32)).size : Int) - 1)) : Int).toNat)) ((Int.tmod (wrap64 (((rdOf ByteArray.empty y109 (ji32)).size : Int) - (t113.size : Int))) 2) == 1) l0 (l0.length : Int) (wrap64 (x10_1 + 1))) else (none)) else (none)) else (expand_Join.l0 k1 l0 y109 ((Int.tmod (wrap64 (((rdOf ByteArray.empty y109 (ji32)).size : Int) - (t113.size : Int))) 2) == 1) l0 (l0.length : Int) (wrap64 (x10_1 + 1))))) else (expand_Join.l0 k1 l0 y109 false l0 (l0.length : Int) (wrap64 (x10_1 + 1)))) else (none)) else (none)) = some r := by first | (rw [hji32] at H; exact H) | (simp only [hji32] at H ⊢; exact H)
        have hji32w : (IntKind.i64.wrap ((y109.length : Int) - 1)) = ji32 := (i64_w _).trans hji32
        by_cases c33 : 0 ≤ (ji32)
        ·rw [if_pos c33] at H
         have c33b0 : decide (0 ≤ (ji32)) = true := decide_eq_true c33
         clear c33
         by_cases c34 : (ji32) < (y109.length : Int)
         ·rw [if_pos c34] at H
          have c34b0 : decide ((ji32) < (y109.length : Int)) = true := decide_eq_true c34
          clear c34
          by_cases c35 : (wrap64 (x10_1 + 1)) < (l0.length : Int)
          ·rw [if_pos c35] at H
           have c35b0 : decide ((wrap64 (x10_1 + 1)) < (l0.length : Int)) = true := decide_eq_true c35
           clear c35
           replace H := Option.bind_eq_some_iff.mp H
           obtain ⟨t113, A360, H⟩ := H
           replace H : (if (Int.tmod (wrap64 (((rdOf ByteArray.empty y109 (ji32)).size : Int) - (t113.size : Int))) 2) = 1 then (if 0 ≤ (wrap64 (((rdOf ByteArray.empty y109 (ji32)).size : Int) - 1)) then (if (wrap64 (((rdOf ByteArray.empty y109 (ji32)).size : Int) - 1)) ≤ ((rdOf ByteArray.empty y109 (ji32)).size : Int) then (expand_Join.l0 k1 l0 (y109.set ((ji32) : Int).toNat ((rdOf ByteArray.empty y109 (ji32)).extract 0 ((wrap64 (((rdOf ByteArray.empty y109 (ji32)).size : Int) - 1)) : Int).toNat)) ((Int.tmod (wrap64 (((rdOf ByteArray.empty y109 (ji32)).size : Int) - (t113.size : Int))) 2) == 1) l0 (l0.length : Int) (wrap64 (x10_1 + 1))) else (none)) else (none)) else (expand_Join.l0 k1 l0 y109 ((Int.tmod (wrap64 (((rdOf ByteArray.empty y109 (ji32)).size : Int) - (t113.size : Int))) 2) == 1) l0 (l0.length : Int) (wrap64 (x10_1 + 1)))) = some r := H
           have A36 := Aside0.mk A360
           clear A360
           by_cases c37 : (Int.tmod (wrap64 (((rdOf ByteArray.empty y109 (ji32)).size : Int) - (t113.size : Int))) 2) = 1
           ·rw [if_pos c37] at H
            have c37b0 : ((Int.tmod (wrap64 (((rdOf ByteArray.empty y109 (ji32)).size : Int) - (t113.size : Int))) 2) == 1) = true := beq_iff_eq.mpr c37
            have c37b1 : ((Int.tmod (wrap64 (((rdOf ByteArray.empty y109 (ji32)).size : Int) - (t113.size : Int))) 2) != 1) = false := bne_eq_false_iff_eq.mpr c37
            clear c37
            obtain ⟨ji38, hji38⟩ : ∃ j_ : Int, (wrap64 (((rdOf ByteArray.empty y109 (ji32)).size : Int) - 1)) = j_ := ⟨_, rfl⟩
            replace H : (if 0 ≤ (ji38) then (if (ji38) ≤ ((rdOf ByteArray.empty y109 (ji32)).size : Int) then (expand_Join.l0 k1 l0 (y109.set ((ji32) : Int).toNat ((rdOf ByteArray.empty y109 (ji32)).extract 0 ((ji38) : Int).toNat)) ((Int.tmod (wrap64 (((rdOf ByteArray.empty y109 (ji32)).size : Int) - (t113.size : Int))) 2) == 1) l0 (l0.length : Int) (wrap64 (x10_1 + 1))) else (none)) else (none)) = some r := by first | (rw [hji38] at H; exact H) | (simp only [hji38] at H ⊢; exact H)
            (try rw [hji38] at A36)
            have hji38w : (IntKind.i64.wrap (((rdOf ByteArray.empty y109 (ji32)).size : Int) - 1)) = ji38 := (i64_w _).trans hji38
            by_cases c39 : 0 ≤ (ji38)
            ·rw [if_pos c39] at H
             have c39b0 := eq_true c39
             have c39b1 : decide (0 ≤ (ji38)) = true := decide_eq_true c39
             clear c39
             by_cases c40 : (ji38) ≤ ((rdOf ByteArray.empty y109 (ji32)).size : Int)
             ·rw [if_pos c40] at H
              have c40b0 := eq_true c40
              have c40b1 : decide ((ji38) ≤ ((rdOf ByteArray.empty y109 (ji32)).size : Int)) = true := decide_eq_true c40
              clear c40
              obtain ⟨sj41, hsj41⟩ : ∃ j_ : ByteArray, ((rdOf ByteArray.empty y109 (ji32)).extract 0 ((ji38) : Int).toNat) = j_ := ⟨_, rfl⟩
              replace H : (expand_Join.l0 k1 l0 (y109.set ((ji32) : Int).toNat sj41) ((Int.tmod (wrap64 (((rdOf ByteArray.empty y109 (ji32)).size : Int) - (t113.size : Int))) 2) == 1) l0 (l0.length : Int) (wrap64 (x10_1 + 1))) = some r := by first | (rw [hsj41] at H; exact H) | (simp only [hsj41] at H ⊢; exact H) | exact H
              (try rw [hsj41] at A36)
              obtain ⟨y114, hy114⟩ : ∃ y_ : List ByteArray, y_ = (y109.set ((ji32) : Int).toNat sj41) := ⟨_, rfl⟩
              replace H : (expand_Join.l0 k1 l0 y114 ((Int.tmod (wrap64 (((rdOf ByteArray.empty y109 (ji32)).size : Int) - (t113.size : Int))) 2) == 1) l0 (l0.length : Int) (wrap64 (x10_1 + 1))) = some r := by first | (rw [hy114]; with_reducible exact H) | (have H2_ := (Option.bind_some _ _).symm.trans H; rw [hy114]; with_reducible exact H2_) | (have H2_ := (Option.bind_some _ _).symm.trans H; with_reducible exact H2_) | with_reducible exact H | (rw [hy114]; exact H) | exact H
              have Ny114 := Aside0.mk hy114
              clear hy114
              have H' := Aside0.mk H
              clear H
              have p103 : 0 ≤ (x10_1 : Int) := of_decide_eq_true (by first | (with_reducible assumption) | assumption)
              have q103 : x10_1 < (l0.length : Int) := of_decide_eq_true (by first | (with_reducible assumption) | assumption)
              obtain ⟨ad103, e103, hx103_0⟩ := Kd.at_string HR0.out x10_1 p103 q103
              cases e103
              replace hx103_0 := (HB.out.cell (World.block_lt_of_cell? w _ hx103_0)).trans hx103_0
              replace p103 := eq_true p103
              replace q103 := eq_true q103
              go_wp2_with (first | ((with_reducible refine gate_builtin (b := .append) (xs := #[.tmp 25, .tmp 27]) rfl ?_); (try (refine gate_guard (by rfl) ?_; dsimp only)); at_builtin; refine Kd.R_append Kd.string (w0 := w) w.heap.size rfl (.tmp 25) (.tmp 27) 27 9 (.string ⟨#[]⟩) 16 rfl Tryd.underlying27 info9 rfl (by decide) (by omega) u3 x3_1 (rdOf ByteArray.empty l0 x10_1) [.string (rdOf ByteArray.empty l0 x10_1)] (fun _ => True) (fun _ => False) rfl rfl ?aP (fun _ hk => hk.elim) ?aF ?aO ?aB ?aS ?aL ?_; (case aP => exact rfl); (case aB => exact (by repeat (first | (with_reducible first | exact HB.out | apply below_alloc | apply pw_below_drewN | apply below_drew1) | exact HB.out))); (case aF => exact (fun _ _ => trivial)); (case aO => exact (by (with_reducible repeat (first | apply Kd.R_alloc | apply Kd.R_drewN | apply Kd.R_drew)); exact HO_3.out)); (case aS => exact (below_size (by repeat (first | (with_reducible first | exact HB.out | apply below_alloc | apply pw_below_drewN | apply below_drew1) | exact HB.out)))); (case aL => have := LMc31.out; omega); intro v110 w43 ho hb hg hat; rw [← Ny109.out] at ho; have n0_ := Aside0.mk (hb); have n1_ := Aside0.mk (ho); clear HB; clear HO_3; have HB := n0_; have HO111 := n1_; clear n0_ n1_; clear ho hb hg hat; obtain ⟨Ao44, co44, eo44⟩ := Kd.R_slice HO111.out; subst eo44; have p112 : 0 ≤ ((ji32) : Int) := of_decide_eq_true (by first | (with_reducible assumption) | assumption); have q112 : (ji32) < (y109.length : Int) := of_decide_eq_true (by first | (with_reducible assumption) | assumption); obtain ⟨ad112, e112, hx112_0⟩ := Kd.at_string (Kd.R_reads' HO111.out).2.2 (ji32) p112 q112; cases e112; replace p112 := eq_true p112; replace q112 := eq_true q112) | (go_at_call 19; (with_reducible refine (strings_TrimRight.calls (rdOf ByteArray.empty y109 (ji32)) (⟨#[92]⟩ : ByteArray) t113 _ A36.out).mono ?_); rintro e w' ⟨rfl, ⟨nd, rfl⟩⟩; (try (rw [drewN_self w43]; generalize hq_ : World.drewN w43 _ = w43; have n0_ : Aside0 (Kd.R Kd.string 9 w43 w.heap.size (fun _ => True) (.slice (some ad112) y109.length co44) y109) := ⟨by rw [← hq_]; exact (by (with_reducible repeat (first | apply Kd.R_alloc | apply Kd.R_drewN | apply Kd.R_drew)); exact HO111.out)⟩; have n1_ : Aside0 (Below w.heap.size w w43) := ⟨by rw [← hq_]; exact (by repeat (first | (with_reducible first | exact HB.out | apply below_alloc | apply pw_below_drewN | apply below_drew1) | exact HB.out))⟩; clear HO111 HB hq_; have HO111 := n0_; have HB := n1_; clear n0_ n1_)); have p42 : 0 ≤ ((ji32) : Int) := of_decide_eq_true (by first | (with_reducible assumption) | assumption); have q42 : ((ji32) : Int) < ((y109.length : Int) : Int) := of_decide_eq_true (by first | (with_reducible assumption) | assumption); obtain ⟨go42, co42, eo42, gb42, gl42, cl42, HG42⟩ := Kd.R_form HO111.out (by omega); (first | cases eo42 | (injection eo42 with ea_ en_ ec_; (first | subst ea_ | (injection ea_ with ea_; subst ea_)); subst ec_; clear en_)); have GB42 := Aside0.mk gb42; have GG42 := Aside0.mk HG42; clear gb42 gl42 HG42; (first | simp only [add_plain] at hx112_0 | skip); obtain ⟨hx42_0, hf42_0⟩ := Kd.R_celln (⟨#[]⟩ : ByteArray) HO111.out ((ji32) : Int) p42 q42; replace p42 := eq_true p42; replace q42 := eq_true q42; obtain ⟨hy45_, hz45_⟩ := Kd.R_celln (⟨#[]⟩ : ByteArray) HO111.out ((ji32) : Int) (of_decide_eq_true (by first | (with_reducible assumption) | assumption)) (of_decide_eq_true (by first | (with_reducible assumption) | assumption)); have HP45 := Kd.R_putg HO111.out ((ji32) : Int) sj41) | ((with_reducible refine gate_store (t := 9) (p := 60) rfl ?_); refine store_event (t := 9) (p := 60) (v := ?vo_w46) (w1 := (w43.setCell ⟨go42, ((ji32) : Int).toNat, none⟩ (.string sj41))) ?hg ?ho ?hn ?hr ?_; (case ho => rfl); (case hg => rfl); (case hn => rfl); (case hr => first | (go_simp; done) | (go_simp; rfl)); intro w46 hw; have hg : w43.grownBy w46 (some go42) := (by rw [hw]; exact HP45.2); have hp_ : Kd.R Kd.string 9 w46 w.heap.size (fun _ => True) (.slice (some ⟨go42, 0, none⟩) y109.length co44) y114 := (by rw [hw, Ny114.out]; exact HP45.1); clear HP45; have n0_ := Aside0.mk (hp_); have n1_ := Aside0.mk ((by rw [hw]; exact below_set (HB.out) GB42.out : Below w.heap.size w w46)); clear HO111; clear HB; have HO111 := n0_; have HB := n1_; clear n0_ n1_; clear hg hw hp_))
              go_roundg k1
              case measure => have := HK1.out; omega
              case rel => exact ⟨(y114), (((Int.tmod (wrap64 (((rdOf ByteArray.empty y109 (ji32)).size : Int) - (t113.size : Int))) 2) == 1)), (wrap64 (x10_1 + 1)), (by first | rfl | (exact congrArg Value.bool (Eq.symm (by with_reducible assumption))) | (simp; done) | (simp only [← hji32] <;> (first | rfl | (simp; done))) | (simp [*]; done)), (by first | rfl | (simp; done) | (simp [*]; done)), H', ⟨by have := HK1.out; omega⟩, ⟨by (with_reducible repeat (first | apply Kd.R_alloc | apply Kd.R_drewN | apply Kd.R_drew)); exact HO111.out⟩, ⟨by repeat (first | (with_reducible first | exact HB.out | apply below_alloc | apply pw_below_drewN | apply below_drew1) | exact HB.out)⟩⟩
             ·rw [if_neg c40] at H
              exact absurd H (by simp)
            ·rw [if_neg c39] at H
             exact absurd H (by simp)
           ·rw [if_neg c37] at H
            have c37b0 : ((Int.tmod (wrap64 (((rdOf ByteArray.empty y109 (ji32)).size : Int) - (t113.size : Int))) 2) == 1) = false := beq_eq_false_iff_ne.mpr c37
            have c37b1 : ((Int.tmod (wrap64 (((rdOf ByteArray.empty y109 (ji32)).size : Int) - (t113.size : Int))) 2) != 1) = true := bne_iff_ne.mpr c37
            have H' := Aside0.mk H
            clear H
            have p103 : 0 ≤ (x10_1 : Int) := of_decide_eq_true (by first | (with_reducible assumption) | assumption)
            have q103 : x10_1 < (l0.length : Int) := of_decide_eq_true (by first | (with_reducible assumption) | assumption)
            obtain ⟨ad103, e103, hx103_0⟩ := Kd.at_string HR0.out x10_1 p103 q103
            cases e103
            replace hx103_0 := (HB.out.cell (World.block_lt_of_cell? w _ hx103_0)).trans hx103_0
            replace p103 := eq_true p103
            replace q103 := eq_true q103
            go_wp2_with (first | ((with_reducible refine gate_builtin (b := .append) (xs := #[.tmp 25, .tmp 27]) rfl ?_); (try (refine gate_guard (by rfl) ?_; dsimp only)); at_builtin; refine Kd.R_append Kd.string (w0 := w) w.heap.size rfl (.tmp 25) (.tmp 27) 27 9 (.string ⟨#[]⟩) 16 rfl Tryd.underlying27 info9 rfl (by decide) (by omega) u3 x3_1 (rdOf ByteArray.empty l0 x10_1) [.string (rdOf ByteArray.empty l0 x10_1)] (fun _ => True) (fun _ => False) rfl rfl ?aP (fun _ hk => hk.elim) ?aF ?aO ?aB ?aS ?aL ?_; (case aP => exact rfl); (case aB => exact (by repeat (first | (with_reducible first | exact HB.out | apply below_alloc | apply pw_below_drewN | apply below_drew1) | exact HB.out))); (case aF => exact (fun _ _ => trivial)); (case aO => exact (by (with_reducible repeat (first | apply Kd.R_alloc | apply Kd.R_drewN | apply Kd.R_drew)); exact HO_3.out)); (case aS => exact (below_size (by repeat (first | (with_reducible first | exact HB.out | apply below_alloc | apply pw_below_drewN | apply below_drew1) | exact HB.out)))); (case aL => have := LMc31.out; omega); intro v110 w47 ho hb hg hat; rw [← Ny109.out] at ho; have n0_ := Aside0.mk (hb); have n1_ := Aside0.mk (ho); clear HB; clear HO_3; have HB := n0_; have HO111 := n1_; clear n0_ n1_; clear ho hb hg hat; obtain ⟨Ao48, co48, eo48⟩ := Kd.R_slice HO111.out; subst eo48; have p112 : 0 ≤ ((ji32) : Int) := of_decide_eq_true (by first | (with_reducible assumption) | assumption); have q112 : (ji32) < (y109.length : Int) := of_decide_eq_true (by first | (with_reducible assumption) | assumption); obtain ⟨ad112, e112, hx112_0⟩ := Kd.at_string (Kd.R_reads' HO111.out).2.2 (ji32) p112 q112; cases e112; replace p112 := eq_true p112; replace q112 := eq_true q112) | (go_at_call 19; (with_reducible refine (strings_TrimRight.calls (rdOf ByteArray.empty y109 (ji32)) (⟨#[92]⟩ : ByteArray) t113 _ A36.out).mono ?_); rintro e w' ⟨rfl, ⟨nd, rfl⟩⟩))
            go_roundg k1
            case measure => have := HK1.out; omega
            case rel => exact ⟨(y109), (((Int.tmod (wrap64 (((rdOf ByteArray.empty y109 (ji32)).size : Int) - (t113.size : Int))) 2) == 1)), (wrap64 (x10_1 + 1)), (by first | rfl | (exact congrArg Value.bool (Eq.symm (by with_reducible assumption))) | (simp; done) | (simp only [← hji32] <;> (first | rfl | (simp; done))) | (simp [*]; done)), (by first | rfl | (simp; done) | (simp [*]; done)), H', ⟨by have := HK1.out; omega⟩, ⟨by (with_reducible repeat (first | apply Kd.R_alloc | apply Kd.R_drewN | apply Kd.R_drew)); exact HO111.out⟩, ⟨by repeat (first | (with_reducible first | exact HB.out | apply below_alloc | apply pw_below_drewN | apply below_drew1) | exact HB.out)⟩⟩
          ·rw [if_neg c35] at H
           have c35b0 : decide ((wrap64 (x10_1 + 1)) < (l0.length : Int)) = false := decide_eq_false c35
           clear c35
           have H' := Aside0.mk H
           clear H
           have p103 : 0 ≤ (x10_1 : Int) := of_decide_eq_true (by first | (with_reducible assumption) | assumption)
           have q103 : x10_1 < (l0.length : Int) := of_decide_eq_true (by first | (with_reducible assumption) | assumption)
           obtain ⟨ad103, e103, hx103_0⟩ := Kd.at_string HR0.out x10_1 p103 q103
           cases e103
           replace hx103_0 := (HB.out.cell (World.block_lt_of_cell? w _ hx103_0)).trans hx103_0
           replace p103 := eq_true p103
           replace q103 := eq_true q103
           go_wp2_with (first | ((with_reducible refine gate_builtin (b := .append) (xs := #[.tmp 25, .tmp 27]) rfl ?_); (try (refine gate_guard (by rfl) ?_; dsimp only)); at_builtin; refine Kd.R_append Kd.string (w0 := w) w.heap.size rfl (.tmp 25) (.tmp 27) 27 9 (.string ⟨#[]⟩) 16 rfl Tryd.underlying27 info9 rfl (by decide) (by omega) u3 x3_1 (rdOf ByteArray.empty l0 x10_1) [.string (rdOf ByteArray.empty l0 x10_1)] (fun _ => True) (fun _ => False) rfl rfl ?aP (fun _ hk => hk.elim) ?aF ?aO ?aB ?aS ?aL ?_; (case aP => exact rfl); (case aB => exact (by repeat (first | (with_reducible first | exact HB.out | apply below_alloc | apply pw_below_drewN | apply below_drew1) | exact HB.out))); (case aF => exact (fun _ _ => trivial)); (case aO => exact (by (with_reducible repeat (first | apply Kd.R_alloc | apply Kd.R_drewN | apply Kd.R_drew)); exact HO_3.out)); (case aS => exact (below_size (by repeat (first | (with_reducible first | exact HB.out | apply below_alloc | apply pw_below_drewN | apply below_drew1) | exact HB.out)))); (case aL => have := LMc31.out; omega); intro v110 w49 ho hb hg hat; rw [← Ny109.out] at ho; have n0_ := Aside0.mk (hb); have n1_ := Aside0.mk (ho); clear HB; clear HO_3; have HB := n0_; have HO111 := n1_; clear n0_ n1_; clear ho hb hg hat; obtain ⟨Ao50, co50, eo50⟩ := Kd.R_slice HO111.out; subst eo50; have p112 : 0 ≤ ((ji32) : Int) := of_decide_eq_true (by first | (with_reducible assumption) | assumption); have q112 : (ji32) < (y109.length : Int) := of_decide_eq_true (by first | (with_reducible assumption) | assumption); obtain ⟨ad112, e112, hx112_0⟩ := Kd.at_string (Kd.R_reads' HO111.out).2.2 (ji32) p112 q112; cases e112; replace p112 := eq_true p112; replace q112 := eq_true q112))
           go_roundg k1
           case measure => have := HK1.out; omega
           case rel => exact ⟨(y109), (false), (wrap64 (x10_1 + 1)), (by first | rfl | (simp; done) | (simp [*]; done)), (by first | rfl | (simp; done) | (simp [*]; done)), H', ⟨by have := HK1.out; omega⟩, ⟨by (with_reducible repeat (first | apply Kd.R_alloc | apply Kd.R_drewN | apply Kd.R_drew)); exact HO111.out⟩, ⟨by repeat (first | (with_reducible first | exact HB.out | apply below_alloc | apply pw_below_drewN | apply below_drew1) | exact HB.out)⟩⟩
         ·rw [if_neg c34] at H
          exact absurd H (by simp)
        ·rw [if_neg c33] at H
         exact absurd H (by simp)
       ·rw [if_neg c31] at H
        exact absurd H (by simp)
     ·rw [if_neg c4] at H
      exact absurd H (by simp)
    ·rw [if_neg c3] at H
     exact absurd H (by simp)
   ·rw [if_neg c2] at H
    have c2b0 : decide (x10_1 < (l0.length : Int)) = false := decide_eq_false c2
    clear c2
    obtain rfl := Option.some.inj H
    go_wp2
    go_ret
    exact ⟨_, by first | rfl | (simp [errW_none, errW_some] <;> rfl) | (simp [*, errW_none, errW_some] <;> rfl), by (with_reducible repeat (first | apply Kd.R_alloc | apply Kd.R_drewN | apply Kd.R_drew)); exact HO_3.out, by repeat (first | (with_reducible first | exact HB.out | apply below_alloc | apply pw_below_drewN | apply below_drew1) | exact HB.out)⟩

/-! ### frisketref04_odd: function 20 -/
def frisketref04_odd.l0 : Nat → ByteArray → Int → Option (Bool)
 | 0, _, _ => none
 | k + 1, x0, x3 => if x3 < (x0.size : Int) then (if 0 ≤ (wrap64 ((wrap64 ((x0.size : Int) - 1)) - x3)) then (if (wrap64 ((wrap64 ((x0.size : Int) - 1)) - x3)) < (x0.size : Int) then (if (bt x0 (wrap64 ((wrap64 ((x0.size : Int) - 1)) - x3))) = 92 then (frisketref04_odd.l0 k x0 (wrap64 (x3 + 1))) else (some ((Int.tmod x3 2) == 1))) else (none)) else (none)) else (some ((Int.tmod x3 2) == 1))
def frisketref04_odd.f (k : Nat) (a0 : ByteArray) : Option (Bool) := frisketref04_odd.l0 k a0 0
theorem frisketref04_odd.mono_l : ∀ k, (∀ y0 y1, LeO (frisketref04_odd.l0 k y0 y1) (frisketref04_odd.l0 (k + 1) y0 y1))
 | 0 => fun _ _ r h => by simp [frisketref04_odd.l0] at h
 | k + 1 => by
  have ih0 := frisketref04_odd.mono_l k
  ·intro y0 y1
   unfold frisketref04_odd.l0
   repeat' first
   | (with_reducible exact ih0 _ _)
   | (with_reducible exact LeO.refl _)
   | (with_reducible exact LeO.none _)
   | (with_reducible refine LeO.ite ?_ ?_)
   | (with_reducible refine LeO.bind ?_ (fun _ => ?_))
   | exact ih0 _ _
   | exact LeO.none _
   | refine LeO.ite ?_ ?_
   | refine LeO.bind ?_ (fun _ => ?_)
theorem frisketref04_odd.mono : ∀ a0 k, LeO (frisketref04_odd.f k a0) (frisketref04_odd.f (k + 1) a0) := by
 intro a0 k
 have ih0 := frisketref04_odd.mono_l k
 unfold frisketref04_odd.f
 repeat' first
   | (with_reducible exact ih0 _ _)
   | (with_reducible exact LeO.refl _)
   | (with_reducible exact LeO.none _)
   | (with_reducible refine LeO.ite ?_ ?_)
   | (with_reducible refine LeO.bind ?_ (fun _ => ?_))
   | exact ih0 _ _
   | exact LeO.none _
   | refine LeO.ite ?_ ?_
   | refine LeO.bind ?_ (fun _ => ?_)
set_option maxHeartbeats 8000000 in
set_option maxRecDepth 100000 in
theorem frisketref04_odd.calls (k : Nat) (a0 : ByteArray) (r : Bool) (w : World) (h : frisketref04_odd.f k a0 = some r) :
  Calls Tryd.prog 20 #[.string a0] w fun e w' => e = .returned (.bool r) ∧ Drawn0 w w' := by
 have H : (frisketref04_odd.l0 k a0 0) = some r := h
 clear h
 have H' := Aside0.mk H
 clear H
 go_enter Tryd.func20, Tryd.ntmps20
 go_wp2
 go_loopg [3] k (fun kq v3 w' => ∃ (x3_1 : Int), v3 = .int .i64 x3_1 ∧ Aside0 (frisketref04_odd.l0 kq a0 x3_1 = some r) ∧ Aside0 (kq ≤ k) ∧ Drawn0 w w')
 case atStart => exact ⟨(0), (by first | rfl | (simp; done) | (simp [*]; done)), H', ⟨Nat.le_refl _⟩, by repeat (first | exact Drawn0.refl _ | apply Drawn0.step)⟩
 case round =>
  clear H'
  obtain ⟨x3_1, rfl, HA, HK1, ⟨m1, rfl⟩⟩ := hrel
  cases gk with
  | zero => exact absurd HA.out (by simp [frisketref04_odd.l0])
  | succ k1 =>
   have H := HA.out
   clear HA
   simp only [frisketref04_odd.l0] at H
   by_cases c2 : x3_1 < (a0.size : Int)
   ·rw [if_pos c2] at H
    have c2b0 : decide (x3_1 < (a0.size : Int)) = true := decide_eq_true c2
    clear c2
    obtain ⟨ji3, hji3⟩ : ∃ j_ : Int, (wrap64 ((wrap64 ((a0.size : Int) - 1)) - x3_1)) = j_ := ⟨_, rfl⟩
    replace H : (if 0 ≤ (ji3) then (if (ji3) < (a0.size : Int) then (if (bt a0 (ji3)) = 92 then (frisketref04_odd.l0 k1 a0 (wrap64 (x3_1 + 1))) else (some ((Int.tmod x3_1 2) == 1))) else (none)) else (none)) = some r := by first | (rw [hji3] at H; exact H) | (simp only [hji3] at H ⊢; exact H)
    have hji3w : (IntKind.i64.wrap ((wrap64 ((a0.size : Int) - 1)) - x3_1)) = ji3 := (i64_w _).trans hji3
    by_cases c4 : 0 ≤ (ji3)
    ·rw [if_pos c4] at H
     have c4b0 : decide (0 ≤ (ji3)) = true := decide_eq_true c4
     clear c4
     by_cases c5 : (ji3) < (a0.size : Int)
     ·rw [if_pos c5] at H
      have c5b0 : decide ((ji3) < (a0.size : Int)) = true := decide_eq_true c5
      clear c5
      by_cases c7 : (bt a0 (ji3)) = 92
      ·rw [if_pos c7] at H
       have c7b0 : ((bt a0 (ji3)) == 92) = true := beq_iff_eq.mpr c7
       have c7b1 : ((bt a0 (ji3)) != 92) = false := bne_eq_false_iff_eq.mpr c7
       clear c7
       have H' := Aside0.mk H
       clear H
       have p6 : 0 ≤ ((ji3) : Int) := of_decide_eq_true (by first | (with_reducible assumption) | assumption)
       have q6 : (ji3) < (a0.size : Int) := of_decide_eq_true (by first | (with_reducible assumption) | assumption)
       have hx6 := bt_at a0 (ji3)
       replace p6 := eq_true p6
       replace q6 := eq_true q6
       go_wp2
       go_roundg k1
       case measure => have := HK1.out; omega
       case rel => exact ⟨(wrap64 (x3_1 + 1)), (by first | rfl | (simp; done) | (simp [*]; done)), H', ⟨by have := HK1.out; omega⟩, by repeat (first | exact Drawn0.refl _ | apply Drawn0.step)⟩
      ·rw [if_neg c7] at H
       have c7b0 : ((bt a0 (ji3)) == 92) = false := beq_eq_false_iff_ne.mpr c7
       have c7b1 : ((bt a0 (ji3)) != 92) = true := bne_iff_ne.mpr c7
       obtain rfl := Option.some.inj H
       have p6 : 0 ≤ ((ji3) : Int) := of_decide_eq_true (by first | (with_reducible assumption) | assumption)
       have q6 : (ji3) < (a0.size : Int) := of_decide_eq_true (by first | (with_reducible assumption) | assumption)
       have hx6 := bt_at a0 (ji3)
       replace p6 := eq_true p6
       replace q6 := eq_true q6
       go_wp2
       go_ret
       exact ⟨by first | rfl | (simp; done) | (simp only [← hji3] <;> (first | rfl | simp)) | (simp [*]; done), by repeat (first | exact Drawn0.refl _ | apply Drawn0.step)⟩
     ·rw [if_neg c5] at H
      exact absurd H (by simp)
    ·rw [if_neg c4] at H
     exact absurd H (by simp)
   ·rw [if_neg c2] at H
    have c2b0 : decide (x3_1 < (a0.size : Int)) = false := decide_eq_false c2
    clear c2
    obtain rfl := Option.some.inj H
    go_wp2
    go_ret
    exact ⟨by first | rfl | (simp; done) | (simp [*]; done), by repeat (first | exact Drawn0.refl _ | apply Drawn0.step)⟩

end Go.Proofs.YtifpjidkfemkfaaDoor.Xj
