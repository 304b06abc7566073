-- YtifpjidkfemkfaaDoorXb: written by wip/xprint.py of this repo, which drives the kit's print; not trusted: Lean checks it
import Derived.Test.YtifpjidkfemkfaaDoorYb0
import Derived.Test.YtifpjidkfemkfaaDoorYb2
import Derived.Test.YtifpjidkfemkfaaDoorYb4
namespace Go.Proofs.YtifpjidkfemkfaaDoor.Xb
open Go.RowKit Go.Proofs.YtifpjidkfemkfaaDoorW.PrintWords Go.Proofs.YtifpjidkfemkfaaDoorW.PrintLast Go.Proofs.YtifpjidkfemkfaaDoorW.PrintMore
attribute [local go_sem] max2_int min2_int max_two min_two max_three min_three max_four min_four   -- for this text's walks alone
open Go.Proofs.YtifpjidkfemkfaaDoor
set_option linter.unusedVariables false
set_option linter.unusedSimpArgs false

/-! ### frisketref04_Plain: function 16 -/
mutual
def frisketref04_Plain.l0 : Nat → ByteArray → Int → Option (Bool)
 | 0, _, _ => none
 | k + 1, x0, x3 => if x3 < (x0.size : Int) then (if 0 ≤ x3 then (if (bt x0 x3) = 92 then (frisketref04_Plain.j1 k x0 x3 ((wrap64 (x3 + 1)) == (x0.size : Int))) else (frisketref04_Plain.j1 k x0 x3 true)) else (none)) else (some true)
def frisketref04_Plain.j1 : Nat → ByteArray → Int → Bool → Option (Bool)
 | 0, _, _, _ => none
 | k + 1, x0, x3, x24 => if x24 = true then (frisketref04_Plain.l0 k x0 (wrap64 (x3 + 1))) else (if 0 ≤ x3 then (if x3 ≤ (x0.size : Int) then ((frisketref04_WidthAt.f k (x0.extract (x3 : Int).toNat x0.size)).bind fun bt121 => ((frisketref04_At.f k (x0.extract (x3 : Int).toNat x0.size)).bind fun bt123 => (if 0 ≤ (wrap64 (x3 + 1)) then (if (wrap64 (x3 + 1)) < (x0.size : Int) then (if (bt x0 (wrap64 (x3 + 1))) = 34 then (frisketref04_Plain.j2 k x0 x3 true) else (if bt123.2.2.2.2 = true then (frisketref04_Plain.j2 k x0 x3 true) else (frisketref04_Plain.j2 k x0 x3 (decide (bt121.2 > 0))))) else (none)) else (none)))) else (none)) else (none))
def frisketref04_Plain.j2 : Nat → ByteArray → Int → Bool → Option (Bool)
 | 0, _, _, _ => none
 | k + 1, x0, x3, x50 => if x50 = true then (some false) else (if 0 ≤ (wrap64 (x3 + 1)) then (if (wrap64 (x3 + 1)) < (x0.size : Int) then (if (bt x0 (wrap64 (x3 + 1))) = 110 then (frisketref04_Plain.l0 k x0 (wrap64 (x3 + 1))) else (if (bt x0 (wrap64 (x3 + 1))) = 42 then (frisketref04_Plain.l0 k x0 (wrap64 (x3 + 1))) else (if (bt x0 (wrap64 (x3 + 1))) = 36 then (frisketref04_Plain.l0 k x0 (wrap64 (x3 + 1))) else (if (bt x0 (wrap64 (x3 + 1))) = 119 then (frisketref04_Plain.l0 k x0 (wrap64 (x3 + 1))) else (frisketref04_Plain.l0 k x0 (wrap64 ((wrap64 (x3 + 1)) + 1))))))) else (none)) else (none))
end
def frisketref04_Plain.f (k : Nat) (a0 : ByteArray) : Option (Bool) := frisketref04_Plain.l0 k a0 0
theorem frisketref04_Plain.mono_l : ∀ k, (∀ y0 y1, LeO (frisketref04_Plain.l0 k y0 y1) (frisketref04_Plain.l0 (k + 1) y0 y1)) ∧ (∀ y0 y1 y2, LeO (frisketref04_Plain.j1 k y0 y1 y2) (frisketref04_Plain.j1 (k + 1) y0 y1 y2)) ∧ (∀ y0 y1 y2, LeO (frisketref04_Plain.j2 k y0 y1 y2) (frisketref04_Plain.j2 (k + 1) y0 y1 y2))
 | 0 => ⟨fun _ _ r h => by simp [frisketref04_Plain.l0] at h, fun _ _ _ r h => by simp [frisketref04_Plain.j1] at h, fun _ _ _ r h => by simp [frisketref04_Plain.j2] at h⟩
 | k + 1 => by
  obtain ⟨ih0, ih1, ih2⟩ := frisketref04_Plain.mono_l k
  refine ⟨?_, ?_, ?_⟩
  ·intro y0 y1
   unfold frisketref04_Plain.l0
   repeat' first
   | (with_reducible exact ih0 _ _)
   | (with_reducible exact ih1 _ _ _)
   | (with_reducible exact ih2 _ _ _)
   | (with_reducible exact frisketref04_At.mono _ _)
   | (with_reducible exact frisketref04_WidthAt.mono _ _)
   | (with_reducible exact LeO.refl _)
   | (with_reducible exact LeO.none _)
   | (with_reducible refine LeO.ite ?_ ?_)
   | (with_reducible refine LeO.bind ?_ (fun _ => ?_))
   | exact ih0 _ _
   | exact ih1 _ _ _
   | exact ih2 _ _ _
   | exact frisketref04_At.mono _ _
   | exact frisketref04_WidthAt.mono _ _
   | exact LeO.none _
   | refine LeO.ite ?_ ?_
   | refine LeO.bind ?_ (fun _ => ?_)
  ·intro y0 y1 y2
   unfold frisketref04_Plain.j1
   repeat' first
   | (with_reducible exact ih0 _ _)
   | (with_reducible exact ih1 _ _ _)
   | (with_reducible exact ih2 _ _ _)
   | (with_reducible exact frisketref04_At.mono _ _)
   | (with_reducible exact frisketref04_WidthAt.mono _ _)
   | (with_reducible exact LeO.refl _)
   | (with_reducible exact LeO.none _)
   | (with_reducible refine LeO.ite ?_ ?_)
   | (with_reducible refine LeO.bind ?_ (fun _ => ?_))
   | exact ih0 _ _
   | exact ih1 _ _ _
   | exact ih2 _ _ _
   | exact frisketref04_At.mono _ _
   | exact frisketref04_WidthAt.mono _ _
   | exact LeO.none _
   | refine LeO.ite ?_ ?_
   | refine LeO.bind ?_ (fun _ => ?_)
  ·intro y0 y1 y2
   unfold frisketref04_Plain.j2
   repeat' first
   | (with_reducible exact ih0 _ _)
   | (with_reducible exact ih1 _ _ _)
   | (with_reducible exact ih2 _ _ _)
   | (with_reducible exact frisketref04_At.mono _ _)
   | (with_reducible exact frisketref04_WidthAt.mono _ _)
   | (with_reducible exact LeO.refl _)
   | (with_reducible exact LeO.none _)
   | (with_reducible refine LeO.ite ?_ ?_)
   | (with_reducible refine LeO.bind ?_ (fun _ => ?_))
   | exact ih0 _ _
   | exact ih1 _ _ _
   | exact ih2 _ _ _
   | exact frisketref04_At.mono _ _
   | exact frisketref04_WidthAt.mono _ _
   | exact LeO.none _
   | refine LeO.ite ?_ ?_
   | refine LeO.bind ?_ (fun _ => ?_)
theorem frisketref04_Plain.mono : ∀ a0 k, LeO (frisketref04_Plain.f k a0) (frisketref04_Plain.f (k + 1) a0) := by
 intro a0 k
 obtain ⟨ih0, ih1, ih2⟩ := frisketref04_Plain.mono_l k
 unfold frisketref04_Plain.f
 repeat' first
   | (with_reducible exact ih0 _ _)
   | (with_reducible exact ih1 _ _ _)
   | (with_reducible exact ih2 _ _ _)
   | (with_reducible exact frisketref04_At.mono _ _)
   | (with_reducible exact frisketref04_WidthAt.mono _ _)
   | (with_reducible exact LeO.refl _)
   | (with_reducible exact LeO.none _)
   | (with_reducible refine LeO.ite ?_ ?_)
   | (with_reducible refine LeO.bind ?_ (fun _ => ?_))
   | exact ih0 _ _
   | exact ih1 _ _ _
   | exact ih2 _ _ _
   | exact frisketref04_At.mono _ _
   | exact frisketref04_WidthAt.mono _ _
   | exact LeO.none _
   | refine LeO.ite ?_ ?_
   | refine LeO.bind ?_ (fun _ => ?_)
set_option maxHeartbeats 8000000 in
set_option maxRecDepth 100000 in
theorem frisketref04_Plain.calls (k : Nat) (a0 : ByteArray) (r : Bool) (w : World) (h : frisketref04_Plain.f k a0 = some r) :
  Calls Tryd.prog 16 #[.string a0] w fun e w' => e = .returned (.bool r) ∧ Below w.heap.size w w' := by
 have hu56 := Tryd.underlying56
 have HB := Aside0.mk (Below.refl w.heap.size w)
 have H : (frisketref04_Plain.l0 k a0 0) = some r := h
 clear h
 have H' := Aside0.mk H
 clear H
 go_enter Tryd.func16, Tryd.ntmps16
 go_wp2
 go_loopg [3] k (fun kq v3 w' => ∃ (x3_1 : Int), v3 = .int .i64 x3_1 ∧ Aside0 (frisketref04_Plain.l0 kq a0 x3_1 = some r) ∧ Aside0 (kq ≤ k) ∧ Aside0 (Below w.heap.size w w'))
 case atStart => exact ⟨(0), (by first | rfl | (simp; done) | (simp [*]; done)), H', ⟨Nat.le_refl _⟩, ⟨by repeat (first | (with_reducible first | exact HB.out | apply below_alloc | apply pw_below_drewN | apply below_drew1) | exact HB.out)⟩⟩
 case round =>
  clear H'
  try clear c1
  obtain ⟨x3_1, rfl, HA, HK1, HB⟩ := hrel
  cases gk with
  | zero => exact absurd HA.out (by simp [frisketref04_Plain.l0])
  | succ k1 =>
   have H := HA.out
   clear HA
   simp only [frisketref04_Plain.l0] at H
   by_cases c2 : x3_1 < (a0.size : Int)
   ·rw [if_pos c2] at H
    have c2b0 : decide (x3_1 < (a0.size : Int)) = true := decide_eq_true c2
    clear c2
    have HC3 := Aside0.mk H
    clear H
    go_upto_region 4 with (fail)
    go_cut [24] (fun v24 wc => ∃ (kq : Nat) (x24_2 : Bool), v24 = .bool x24_2 ∧ Aside0 (frisketref04_Plain.j1 kq a0 x3_1 x24_2 = some r) ∧ Aside0 (kq ≤ k1) ∧ Aside0 (Below w.heap.size w wc))
    case first =>
     have H := HC3.out
     clear HC3
     by_cases c4 : 0 ≤ x3_1
     ·rw [if_pos c4] at H
      have c4b0 : decide (0 ≤ x3_1) = true := decide_eq_true c4
      clear c4
      (first | rw [c4b0] | (simp only [i64_w, i32_w]; rw [c4b0]) | skip)
      by_cases c6 : (bt a0 x3_1) = 92
      ·rw [if_pos c6] at H
       have c6b0 : ((bt a0 x3_1) == 92) = true := beq_iff_eq.mpr c6
       have c6b1 : ((bt a0 x3_1) != 92) = false := bne_eq_false_iff_eq.mpr c6
       clear c6
       have H' := Aside0.mk H
       clear H
       have p5 : 0 ≤ (x3_1 : Int) := of_decide_eq_true (by first | (with_reducible assumption) | assumption)
       have q5 : x3_1 < (a0.size : Int) := of_decide_eq_true (by first | (with_reducible assumption) | assumption)
       have hx5 := bt_at a0 x3_1
       replace p5 := eq_true p5
       replace q5 := eq_true q5
       go_wp2
       go_meet
       case rel => exact ⟨_, (((wrap64 (x3_1 + 1)) == (a0.size : Int))), (by first | rfl | (simp; done) | (simp [*]; done)), H', ⟨by have := HK1.out; first | omega | exact Nat.le_refl _⟩, ⟨by repeat (first | (with_reducible first | exact HB.out | apply below_alloc | apply pw_below_drewN | apply below_drew1) | exact HB.out)⟩⟩
      ·rw [if_neg c6] at H
       have c6b0 : ((bt a0 x3_1) == 92) = false := beq_eq_false_iff_ne.mpr c6
       have c6b1 : ((bt a0 x3_1) != 92) = true := bne_iff_ne.mpr c6
       have H' := Aside0.mk H
       clear H
       have p5 : 0 ≤ (x3_1 : Int) := of_decide_eq_true (by first | (with_reducible assumption) | assumption)
       have q5 : x3_1 < (a0.size : Int) := of_decide_eq_true (by first | (with_reducible assumption) | assumption)
       have hx5 := bt_at a0 x3_1
       replace p5 := eq_true p5
       replace q5 := eq_true q5
       go_wp2
       go_meet
       case rel => exact ⟨_, (true), (by first | rfl | (simp; done) | (simp [*]; done)), H', ⟨by have := HK1.out; first | omega | exact Nat.le_refl _⟩, ⟨by repeat (first | (with_reducible first | exact HB.out | apply below_alloc | apply pw_below_drewN | apply below_drew1) | exact HB.out)⟩⟩
     ·rw [if_neg c4] at H
      exact absurd H (by simp)
    case rest =>
     clear HC3
     try clear c1
     try clear c2
     try clear c2b0
     try clear p2
     try clear c4
     try clear c4b0
     try clear p5
     try clear q5
     try clear hx5
     try clear c6
     try clear c6b0
     try clear c6b1
     try clear p6
     try clear p5
     try clear q5
     obtain ⟨kq, x24_2, rfl, HA, HJ2, HB⟩ := hcut
     cases kq with
     | zero => exact absurd HA.out (by simp [frisketref04_Plain.j1])
     | succ kj2 =>
      have H := HA.out
      clear HA
      simp only [frisketref04_Plain.j1] at H
      by_cases c7 : x24_2 = true
      ·subst c7
       have H1 : (frisketref04_Plain.l0 kj2 a0 (wrap64 (x3_1 + 1))) = some r := by rw [if_pos rfl] at H; exact H
       clear H
       have H := H1
       clear H1
       have H' := Aside0.mk H
       clear H
       go_wp2
       go_roundg kj2
       case measure => have := HK1.out; have := HJ2.out; omega
       case rel => exact ⟨(wrap64 (x3_1 + 1)), (by first | rfl | (simp; done) | (simp [*]; done)), H', ⟨by have := HK1.out; have := HJ2.out; omega⟩, ⟨by repeat (first | (with_reducible first | exact HB.out | apply below_alloc | apply pw_below_drewN | apply below_drew1) | exact HB.out)⟩⟩
      ·replace c7 := Bool.eq_false_iff.mpr c7
       subst c7
       have H1 : (if 0 ≤ x3_1 then (if x3_1 ≤ (a0.size : Int) then ((frisketref04_WidthAt.f kj2 (a0.extract (x3_1 : Int).toNat a0.size)).bind fun bt121 => ((frisketref04_At.f kj2 (a0.extract (x3_1 : Int).toNat a0.size)).bind fun bt123 => (if 0 ≤ (wrap64 (x3_1 + 1)) then (if (wrap64 (x3_1 + 1)) < (a0.size : Int) then (if (bt a0 (wrap64 (x3_1 + 1))) = 34 then (frisketref04_Plain.j2 kj2 a0 x3_1 true) else (if bt123.2.2.2.2 = true then (frisketref04_Plain.j2 kj2 a0 x3_1 true) else (frisketref04_Plain.j2 kj2 a0 x3_1 (decide (bt121.2 > 0))))) else (none)) else (none)))) else (none)) else (none)) = some r := by rw [if_neg (show ¬ (false = true) by decide)] at H; exact H
       clear H
       have H := H1
       clear H1
       by_cases c8 : 0 ≤ x3_1
       ·rw [if_pos c8] at H
        have c8b0 := eq_true c8
        have c8b1 : decide (0 ≤ x3_1) = true := decide_eq_true c8
        clear c8
        by_cases c9 : x3_1 ≤ (a0.size : Int)
        ·rw [if_pos c9] at H
         have c9b0 := eq_true c9
         have c9b1 : decide (x3_1 ≤ (a0.size : Int)) = true := decide_eq_true c9
         clear c9
         obtain ⟨sj10, hsj10⟩ : ∃ j_ : ByteArray, (a0.extract (x3_1 : Int).toNat a0.size) = j_ := ⟨_, rfl⟩
         replace H : ((frisketref04_WidthAt.f kj2 sj10).bind fun bt121 => ((frisketref04_At.f kj2 sj10).bind fun bt123 => (if 0 ≤ (wrap64 (x3_1 + 1)) then (if (wrap64 (x3_1 + 1)) < (a0.size : Int) then (if (bt a0 (wrap64 (x3_1 + 1))) = 34 then (frisketref04_Plain.j2 kj2 a0 x3_1 true) else (if bt123.2.2.2.2 = true then (frisketref04_Plain.j2 kj2 a0 x3_1 true) else (frisketref04_Plain.j2 kj2 a0 x3_1 (decide (bt121.2 > 0))))) else (none)) else (none)))) = some r := by first | (rw [hsj10] at H; exact H) | (simp only [hsj10] at H ⊢; exact H) | exact H
         replace H := Option.bind_eq_some_iff.mp H
         obtain ⟨⟨t121, t122⟩, A110, H⟩ := H
         replace H : ((frisketref04_At.f kj2 sj10).bind fun bt123 => (if 0 ≤ (wrap64 (x3_1 + 1)) then (if (wrap64 (x3_1 + 1)) < (a0.size : Int) then (if (bt a0 (wrap64 (x3_1 + 1))) = 34 then (frisketref04_Plain.j2 kj2 a0 x3_1 true) else (if bt123.2.2.2.2 = true then (frisketref04_Plain.j2 kj2 a0 x3_1 true) else (frisketref04_Plain.j2 kj2 a0 x3_1 (decide (t122 > 0))))) else (none)) else (none))) = some r := H
         have A11 := Aside0.mk A110
         clear A110
         have c12b0 := eq_true (of_decide_eq_true (by first | (with_reducible assumption) | assumption) : 0 ≤ x3_1)
         have c13b0 := eq_true (of_decide_eq_true (by first | (with_reducible assumption) | assumption) : x3_1 ≤ (a0.size : Int))
         replace H := Option.bind_eq_some_iff.mp H
         obtain ⟨⟨t123, t124, t125, t126, t127⟩, A140, H⟩ := H
         replace H : (if 0 ≤ (wrap64 (x3_1 + 1)) then (if (wrap64 (x3_1 + 1)) < (a0.size : Int) then (if (bt a0 (wrap64 (x3_1 + 1))) = 34 then (frisketref04_Plain.j2 kj2 a0 x3_1 true) else (if t127 = true then (frisketref04_Plain.j2 kj2 a0 x3_1 true) else (frisketref04_Plain.j2 kj2 a0 x3_1 (decide (t122 > 0))))) else (none)) else (none)) = some r := H
         have A14 := Aside0.mk A140
         clear A140
         have HC15 := Aside0.mk H
         clear H
         go_upto_region 7 with (first | ((with_reducible refine gate_callee (f := 28) rfl ?_); refine goesL_ (some 29) rfl rfl Tryd.func28 (by kernel_rfl) rfl #[.string sj10] rfl (by (try simp only [List.map_toArray, List.map_cons, List.map_nil]); first | done | rfl | (simp only [List.length_drop, List.length_take]; rfl)) ?_; (with_reducible refine (frisketref04_WidthAt.calls kj2 sj10 t121 t122 _ A11.out).mono ?_); rintro e w' ⟨rfl, ⟨nd, rfl⟩⟩; refine ⟨_, rfl, ?_⟩; (try (rw [drewN_self wc]; generalize hq_ : World.drewN wc _ = wc; have n0_ : Aside0 (Below w.heap.size w wc) := ⟨by rw [← hq_]; exact (by repeat (first | (with_reducible first | exact HB.out | apply below_alloc | apply pw_below_drewN | apply below_drew1) | exact HB.out))⟩; clear HB hq_; have HB := n0_; clear n0_))) | ((with_reducible refine gate_callee (f := 29) rfl ?_); refine goesL_ (some 36) rfl rfl Tryd.func29 (by kernel_rfl) rfl #[.string sj10] rfl (by (try simp only [List.map_toArray, List.map_cons, List.map_nil]); first | done | rfl | (simp only [List.length_drop, List.length_take]; rfl)) ?_; (with_reducible refine (frisketref04_At.calls kj2 sj10 t123 t124 t125 t126 t127 _ A14.out).mono ?_); rintro e w16 ⟨rfl, hb⟩; refine ⟨_, rfl, ?_⟩; have n0_ := Aside0.mk (below_step (by repeat (first | (with_reducible first | exact HB.out | apply below_alloc | apply pw_below_drewN | apply below_drew1) | exact HB.out)) hb); clear HB; have HB := n0_; clear n0_; (try clear hb); (try clear hb2); (try clear hk); (try clear hi)) | ((with_reducible refine gate_dst (N := 6) rfl ?_); (try (refine gate_guard (by rfl) ?_; dsimp only)); refine box_event ?hg (N := 6) ?hd (cs := #[.int .u8 0, .string (⟨#[]⟩ : ByteArray), .int .i64 0, .int .i64 0]) (t := 56) ?hr ?_; (case hd => rfl); (case hg => rfl); (case hr => first | (go_simp; done) | (go_simp; rfl)); intro gb128 hg w17 hbox hb; have n0_ := Aside0.mk (below_step (by repeat (first | (with_reducible first | exact HB.out | apply below_alloc | apply pw_below_drewN | apply below_drew1) | exact HB.out)) hb); have n1_ := Aside0.mk (hbox); have n2_ := Aside0.mk ((by rw [hg]; exact (below_size (by repeat (first | (with_reducible first | exact HB.out | apply below_alloc | apply pw_below_drewN | apply below_drew1) | exact HB.out))) : w.heap.size ≤ gb128)); have n3_ := Aside0.mk ((by rw [hg]; exact (below_size (by repeat (first | (with_reducible first | exact HB.out | apply below_alloc | apply pw_below_drewN | apply below_drew1) | exact HB.out))) : w.heap.size ≤ gb128)); clear HB; have HB := n0_; have BK128 := n1_; have GW128 := n2_; have GE128 := n3_; clear n0_ n1_ n2_ n3_; clear hb hbox hg; have hcz18_0 : w17.cell? ⟨gb128, 0, none⟩ = some (.int .u8 0) := (blk_cell BK128.out 0).trans rfl; have hcz18_1 : w17.cell? ⟨gb128, 1, none⟩ = some (.string (⟨#[]⟩ : ByteArray)) := (blk_cell BK128.out 1).trans rfl; have hcz18_2 : w17.cell? ⟨gb128, 2, none⟩ = some (.int .i64 0) := (blk_cell BK128.out 2).trans rfl; have hcz18_3 : w17.cell? ⟨gb128, 3, none⟩ = some (.int .i64 0) := (blk_cell BK128.out 3).trans rfl; have hfz18_0 := blk_frozen BK128.out 0; have hfz18_1 := blk_frozen BK128.out 1; have hfz18_2 := blk_frozen BK128.out 2; have hfz18_3 := blk_frozen BK128.out 3))
         (try simp only [Act.put, List.setIfInBounds_toArray, List.set_cons_zero, List.set_cons_succ])
         go_cut [50] (fun v50 wc => ∃ (kq : Nat) (x50_14 : Bool), v50 = .bool x50_14 ∧ Aside0 (frisketref04_Plain.j2 kq a0 x3_1 x50_14 = some r) ∧ Aside0 (kq ≤ kj2) ∧ Aside0 (wc.heap[gb128]? = some (.cells #[.int .u8 t123, .string t124, .int .i64 t125, .int .i64 t126] 56 (0, 0))) ∧ Aside0 (Below w.heap.size w wc))
         case first =>
          have H := HC15.out
          clear HC15
          obtain ⟨ji19, hji19⟩ : ∃ j_ : Int, (wrap64 (x3_1 + 1)) = j_ := ⟨_, rfl⟩
          replace H : (if 0 ≤ (ji19) then (if (ji19) < (a0.size : Int) then (if (bt a0 (ji19)) = 34 then (frisketref04_Plain.j2 kj2 a0 x3_1 true) else (if t127 = true then (frisketref04_Plain.j2 kj2 a0 x3_1 true) else (frisketref04_Plain.j2 kj2 a0 x3_1 (decide (t122 > 0))))) else (none)) else (none)) = some r := by first | (rw [hji19] at H; exact H) | (simp only [hji19] at H ⊢; exact H)
          have hji19w : (IntKind.i64.wrap (x3_1 + 1)) = ji19 := (i64_w _).trans hji19
          by_cases c20 : 0 ≤ (ji19)
          ·rw [if_pos c20] at H
           have c20b0 : decide (0 ≤ (ji19)) = true := decide_eq_true c20
           clear c20
           (first | rw [c20b0] | (simp only [i64_w, i32_w]; rw [c20b0]) | skip)
           by_cases c21 : (ji19) < (a0.size : Int)
           ·rw [if_pos c21] at H
            have c21b0 : decide ((ji19) < (a0.size : Int)) = true := decide_eq_true c21
            clear c21
            by_cases c23 : (bt a0 (ji19)) = 34
            ·rw [if_pos c23] at H
             have c23b0 : ((bt a0 (ji19)) == 34) = true := beq_iff_eq.mpr c23
             have c23b1 : ((bt a0 (ji19)) != 34) = false := bne_eq_false_iff_eq.mpr c23
             clear c23
             have H' := Aside0.mk H
             clear H
             have p22 : 0 ≤ ((ji19) : Int) := of_decide_eq_true (by first | (with_reducible assumption) | assumption)
             have q22 : (ji19) < (a0.size : Int) := of_decide_eq_true (by first | (with_reducible assumption) | assumption)
             have hx22 := bt_at a0 (ji19)
             replace p22 := eq_true p22
             replace q22 := eq_true q22
             go_wp2
             go_meet
             case rel => exact ⟨_, (true), (by first | rfl | (simp; done) | (simp [*]; done)), H', ⟨by have := HK1.out; have := HJ2.out; first | omega | exact Nat.le_refl _⟩, ⟨by (with_reducible repeat (first | refine blk_drewN ?_ _ | refine blk_drew ?_ | refine blk_alloc ?_ _)); refine blk_put (cs := #[.int .u8 t123, .string t124, .int .i64 t125, .int .i64 0]) ?_ 3 _ rfl; (with_reducible repeat (first | refine blk_drewN ?_ _ | refine blk_drew ?_ | refine blk_alloc ?_ _)); refine blk_put (cs := #[.int .u8 t123, .string t124, .int .i64 0, .int .i64 0]) ?_ 2 _ rfl; (with_reducible repeat (first | refine blk_drewN ?_ _ | refine blk_drew ?_ | refine blk_alloc ?_ _)); refine blk_put (cs := #[.int .u8 t123, .string (⟨#[]⟩ : ByteArray), .int .i64 0, .int .i64 0]) ?_ 1 _ rfl; (with_reducible repeat (first | refine blk_drewN ?_ _ | refine blk_drew ?_ | refine blk_alloc ?_ _)); refine blk_put (cs := #[.int .u8 0, .string (⟨#[]⟩ : ByteArray), .int .i64 0, .int .i64 0]) ?_ 0 _ rfl; (with_reducible repeat (first | refine blk_drewN ?_ _ | refine blk_drew ?_ | refine blk_alloc ?_ _)); exact BK128.out⟩, ⟨by repeat (first | (with_reducible first | exact HB.out | apply below_alloc | apply pw_below_drewN | apply below_drew1 | refine below_set ?_ GE128.out) | exact HB.out)⟩⟩
            ·rw [if_neg c23] at H
             have c23b0 : ((bt a0 (ji19)) == 34) = false := beq_eq_false_iff_ne.mpr c23
             have c23b1 : ((bt a0 (ji19)) != 34) = true := bne_iff_ne.mpr c23
             by_cases c24 : t127 = true
             ·subst c24
              have H1 : (frisketref04_Plain.j2 kj2 a0 x3_1 true) = some r := by rw [if_pos rfl] at H; exact H
              clear H
              have H := H1
              clear H1
              have H' := Aside0.mk H
              clear H
              have p22 : 0 ≤ ((ji19) : Int) := of_decide_eq_true (by first | (with_reducible assumption) | assumption)
              have q22 : (ji19) < (a0.size : Int) := of_decide_eq_true (by first | (with_reducible assumption) | assumption)
              have hx22 := bt_at a0 (ji19)
              replace p22 := eq_true p22
              replace q22 := eq_true q22
              go_wp2
              go_meet
              case rel => exact ⟨_, (true), (by first | rfl | (simp; done) | (simp [*]; done)), H', ⟨by have := HK1.out; have := HJ2.out; first | omega | exact Nat.le_refl _⟩, ⟨by (with_reducible repeat (first | refine blk_drewN ?_ _ | refine blk_drew ?_ | refine blk_alloc ?_ _)); refine blk_put (cs := #[.int .u8 t123, .string t124, .int .i64 t125, .int .i64 0]) ?_ 3 _ rfl; (with_reducible repeat (first | refine blk_drewN ?_ _ | refine blk_drew ?_ | refine blk_alloc ?_ _)); refine blk_put (cs := #[.int .u8 t123, .string t124, .int .i64 0, .int .i64 0]) ?_ 2 _ rfl; (with_reducible repeat (first | refine blk_drewN ?_ _ | refine blk_drew ?_ | refine blk_alloc ?_ _)); refine blk_put (cs := #[.int .u8 t123, .string (⟨#[]⟩ : ByteArray), .int .i64 0, .int .i64 0]) ?_ 1 _ rfl; (with_reducible repeat (first | refine blk_drewN ?_ _ | refine blk_drew ?_ | refine blk_alloc ?_ _)); refine blk_put (cs := #[.int .u8 0, .string (⟨#[]⟩ : ByteArray), .int .i64 0, .int .i64 0]) ?_ 0 _ rfl; (with_reducible repeat (first | refine blk_drewN ?_ _ | refine blk_drew ?_ | refine blk_alloc ?_ _)); exact BK128.out⟩, ⟨by repeat (first | (with_reducible first | exact HB.out | apply below_alloc | apply pw_below_drewN | apply below_drew1 | refine below_set ?_ GE128.out) | exact HB.out)⟩⟩
             ·replace c24 := Bool.eq_false_iff.mpr c24
              subst c24
              have H1 : (frisketref04_Plain.j2 kj2 a0 x3_1 (decide (t122 > 0))) = some r := by rw [if_neg (show ¬ (false = true) by decide)] at H; exact H
              clear H
              have H := H1
              clear H1
              have H' := Aside0.mk H
              clear H
              have p22 : 0 ≤ ((ji19) : Int) := of_decide_eq_true (by first | (with_reducible assumption) | assumption)
              have q22 : (ji19) < (a0.size : Int) := of_decide_eq_true (by first | (with_reducible assumption) | assumption)
              have hx22 := bt_at a0 (ji19)
              replace p22 := eq_true p22
              replace q22 := eq_true q22
              go_wp2
              go_meet
              case rel => exact ⟨_, (decide (t122 > 0)), (by first | rfl | (simp; done) | (simp [*]; done)), H', ⟨by have := HK1.out; have := HJ2.out; first | omega | exact Nat.le_refl _⟩, ⟨by (with_reducible repeat (first | refine blk_drewN ?_ _ | refine blk_drew ?_ | refine blk_alloc ?_ _)); refine blk_put (cs := #[.int .u8 t123, .string t124, .int .i64 t125, .int .i64 0]) ?_ 3 _ rfl; (with_reducible repeat (first | refine blk_drewN ?_ _ | refine blk_drew ?_ | refine blk_alloc ?_ _)); refine blk_put (cs := #[.int .u8 t123, .string t124, .int .i64 0, .int .i64 0]) ?_ 2 _ rfl; (with_reducible repeat (first | refine blk_drewN ?_ _ | refine blk_drew ?_ | refine blk_alloc ?_ _)); refine blk_put (cs := #[.int .u8 t123, .string (⟨#[]⟩ : ByteArray), .int .i64 0, .int .i64 0]) ?_ 1 _ rfl; (with_reducible repeat (first | refine blk_drewN ?_ _ | refine blk_drew ?_ | refine blk_alloc ?_ _)); refine blk_put (cs := #[.int .u8 0, .string (⟨#[]⟩ : ByteArray), .int .i64 0, .int .i64 0]) ?_ 0 _ rfl; (with_reducible repeat (first | refine blk_drewN ?_ _ | refine blk_drew ?_ | refine blk_alloc ?_ _)); exact BK128.out⟩, ⟨by repeat (first | (with_reducible first | exact HB.out | apply below_alloc | apply pw_below_drewN | apply below_drew1 | refine below_set ?_ GE128.out) | exact HB.out)⟩⟩
           ·rw [if_neg c21] at H
            exact absurd H (by simp)
          ·rw [if_neg c20] at H
           exact absurd H (by simp)
         case rest =>
          clear HC15
          try clear c1
          try clear c2
          try clear c2b0
          try clear p2
          try clear q2
          try clear hx2
          try clear c4
          try clear c4b0
          try clear p5
          try clear q5
          try clear hx5
          try clear c6
          try clear c6b0
          try clear c6b1
          try clear p6
          try clear c7
          try clear c8
          try clear c8b0
          try clear c8b1
          try clear c9
          try clear c9b0
          try clear c9b1
          try clear c12
          try clear c12b0
          try clear c13
          try clear c13b0
          try clear c16
          try clear c20
          try clear c20b0
          try clear c21
          try clear c21b0
          try clear p22
          try clear q22
          try clear hx22
          try clear c23
          try clear c23b0
          try clear c23b1
          try clear c24
          try clear hcz18_0
          try clear hcz18_1
          try clear hcz18_2
          try clear hcz18_3
          try clear hfz18_0
          try clear hfz18_1
          try clear hfz18_2
          try clear hfz18_3
          try clear p2
          try clear p22
          try clear p5
          try clear p6
          try clear q22
          try clear q5
          obtain ⟨kq, x50_14, rfl, HA, HJ14, BK128, HB⟩ := hcut
          cases kq with
          | zero => exact absurd HA.out (by simp [frisketref04_Plain.j2])
          | succ kj14 =>
           have H := HA.out
           clear HA
           simp only [frisketref04_Plain.j2] at H
           by_cases c25 : x50_14 = true
           ·subst c25
            have H1 : (some false) = some r := by rw [if_pos rfl] at H; exact H
            clear H
            have H := H1
            clear H1
            obtain rfl := Option.some.inj H
            go_wp2
            go_ret
            exact ⟨by first | rfl | (simp [errW_none, errW_some] <;> rfl) | (simp only [← hsj10]; first | rfl | (simp [errW_none, errW_some] <;> rfl)) | (simp [*, errW_none, errW_some] <;> rfl), by repeat (first | (with_reducible first | exact HB.out | apply below_alloc | apply pw_below_drewN | apply below_drew1 | refine below_set ?_ GE128.out) | exact HB.out)⟩
           ·replace c25 := Bool.eq_false_iff.mpr c25
            subst c25
            have H1 : (if 0 ≤ (wrap64 (x3_1 + 1)) then (if (wrap64 (x3_1 + 1)) < (a0.size : Int) then (if (bt a0 (wrap64 (x3_1 + 1))) = 110 then (frisketref04_Plain.l0 kj14 a0 (wrap64 (x3_1 + 1))) else (if (bt a0 (wrap64 (x3_1 + 1))) = 42 then (frisketref04_Plain.l0 kj14 a0 (wrap64 (x3_1 + 1))) else (if (bt a0 (wrap64 (x3_1 + 1))) = 36 then (frisketref04_Plain.l0 kj14 a0 (wrap64 (x3_1 + 1))) else (if (bt a0 (wrap64 (x3_1 + 1))) = 119 then (frisketref04_Plain.l0 kj14 a0 (wrap64 (x3_1 + 1))) else (frisketref04_Plain.l0 kj14 a0 (wrap64 ((wrap64 (x3_1 + 1)) + 1))))))) else (none)) else (none)) = some r := by rw [if_neg (show ¬ (false = true) by decide)] at H; exact H
            clear H
            have H := H1
            clear H1
            obtain ⟨ji26, hji26⟩ : ∃ j_ : Int, (wrap64 (x3_1 + 1)) = j_ := ⟨_, rfl⟩
            replace H : (if 0 ≤ (ji26) then (if (ji26) < (a0.size : Int) then (if (bt a0 (ji26)) = 110 then (frisketref04_Plain.l0 kj14 a0 ji26) else (if (bt a0 (ji26)) = 42 then (frisketref04_Plain.l0 kj14 a0 ji26) else (if (bt a0 (ji26)) = 36 then (frisketref04_Plain.l0 kj14 a0 ji26) else (if (bt a0 (ji26)) = 119 then (frisketref04_Plain.l0 kj14 a0 ji26) else (frisketref04_Plain.l0 kj14 a0 (wrap64 ((ji26) + 1))))))) else (none)) else (none)) = some r := by first | (rw [hji26] at H; exact H) | (simp only [hji26] at H ⊢; exact H)
            have hji26w : (IntKind.i64.wrap (x3_1 + 1)) = ji26 := (i64_w _).trans hji26
            by_cases c27 : 0 ≤ (ji26)
            ·rw [if_pos c27] at H
             have c27b0 : decide (0 ≤ (ji26)) = true := decide_eq_true c27
             clear c27
             by_cases c28 : (ji26) < (a0.size : Int)
             ·rw [if_pos c28] at H
              have c28b0 : decide ((ji26) < (a0.size : Int)) = true := decide_eq_true c28
              clear c28
              by_cases c30 : (bt a0 (ji26)) = 110
              ·rw [if_pos c30] at H
               have c30b0 : ((bt a0 (ji26)) == 110) = true := beq_iff_eq.mpr c30
               have c30b1 : ((bt a0 (ji26)) != 110) = false := bne_eq_false_iff_eq.mpr c30
               clear c30
               have H' := Aside0.mk H
               clear H
               have p29 : 0 ≤ ((ji26) : Int) := of_decide_eq_true (by first | (with_reducible assumption) | assumption)
               have q29 : (ji26) < (a0.size : Int) := of_decide_eq_true (by first | (with_reducible assumption) | assumption)
               have hx29 := bt_at a0 (ji26)
               replace p29 := eq_true p29
               replace q29 := eq_true q29
               go_wp2
               go_roundg kj14
               case measure => have := HK1.out; have := HJ2.out; have := HJ14.out; omega
               case rel => exact ⟨(ji26), (by first | rfl | (exact congrArg Value.bool (Eq.symm (by with_reducible assumption))) | (simp; done) | (simp only [← hji26] <;> (first | rfl | (simp; done))) | (simp [*]; done)), H', ⟨by have := HK1.out; have := HJ2.out; have := HJ14.out; omega⟩, ⟨by repeat (first | (with_reducible first | exact HB.out | apply below_alloc | apply pw_below_drewN | apply below_drew1 | refine below_set ?_ GE128.out) | exact HB.out)⟩⟩
              ·rw [if_neg c30] at H
               have c30b0 : ((bt a0 (ji26)) == 110) = false := beq_eq_false_iff_ne.mpr c30
               have c30b1 : ((bt a0 (ji26)) != 110) = true := bne_iff_ne.mpr c30
               by_cases c32 : (bt a0 (ji26)) = 42
               ·rw [if_pos c32] at H
                have c32b0 : ((bt a0 (ji26)) == 42) = true := beq_iff_eq.mpr c32
                have c32b1 : ((bt a0 (ji26)) != 42) = false := bne_eq_false_iff_eq.mpr c32
                clear c32
                have H' := Aside0.mk H
                clear H
                have p29 : 0 ≤ ((ji26) : Int) := of_decide_eq_true (by first | (with_reducible assumption) | assumption)
                have q29 : (ji26) < (a0.size : Int) := of_decide_eq_true (by first | (with_reducible assumption) | assumption)
                have hx29 := bt_at a0 (ji26)
                replace p29 := eq_true p29
                replace q29 := eq_true q29
                have p31 : 0 ≤ ((ji26) : Int) := of_decide_eq_true (by first | (with_reducible assumption) | assumption)
                have q31 : (ji26) < (a0.size : Int) := of_decide_eq_true (by first | (with_reducible assumption) | assumption)
                have hx31 := bt_at a0 (ji26)
                replace p31 := eq_true p31
                replace q31 := eq_true q31
                go_wp2
                go_roundg kj14
                case measure => have := HK1.out; have := HJ2.out; have := HJ14.out; omega
                case rel => exact ⟨(ji26), (by first | rfl | (exact congrArg Value.bool (Eq.symm (by with_reducible assumption))) | (simp; done) | (simp only [← hji26] <;> (first | rfl | (simp; done))) | (simp [*]; done)), H', ⟨by have := HK1.out; have := HJ2.out; have := HJ14.out; omega⟩, ⟨by repeat (first | (with_reducible first | exact HB.out | apply below_alloc | apply pw_below_drewN | apply below_drew1 | refine below_set ?_ GE128.out) | exact HB.out)⟩⟩
               ·rw [if_neg c32] at H
                have c32b0 : ((bt a0 (ji26)) == 42) = false := beq_eq_false_iff_ne.mpr c32
                have c32b1 : ((bt a0 (ji26)) != 42) = true := bne_iff_ne.mpr c32
                by_cases c34 : (bt a0 (ji26)) = 36
                ·rw [if_pos c34] at H
                 have c34b0 : ((bt a0 (ji26)) == 36) = true := beq_iff_eq.mpr c34
                 have c34b1 : ((bt a0 (ji26)) != 36) = false := bne_eq_false_iff_eq.mpr c34
                 clear c34
                 have H' := Aside0.mk H
                 clear H
                 have p29 : 0 ≤ ((ji26) : Int) := of_decide_eq_true (by first | (with_reducible assumption) | assumption)
                 have q29 : (ji26) < (a0.size : Int) := of_decide_eq_true (by first | (with_reducible assumption) | assumption)
                 have hx29 := bt_at a0 (ji26)
                 replace p29 := eq_true p29
                 replace q29 := eq_true q29
                 have p31 : 0 ≤ ((ji26) : Int) := of_decide_eq_true (by first | (with_reducible assumption) | assumption)
                 have q31 : (ji26) < (a0.size : Int) := of_decide_eq_true (by first | (with_reducible assumption) | assumption)
                 have hx31 := bt_at a0 (ji26)
                 replace p31 := eq_true p31
                 replace q31 := eq_true q31
                 have p33 : 0 ≤ ((ji26) : Int) := of_decide_eq_true (by first | (with_reducible assumption) | assumption)
                 have q33 : (ji26) < (a0.size : Int) := of_decide_eq_true (by first | (with_reducible assumption) | assumption)
                 have hx33 := bt_at a0 (ji26)
                 replace p33 := eq_true p33
                 replace q33 := eq_true q33
                 go_wp2
                 go_roundg kj14
                 case measure => have := HK1.out; have := HJ2.out; have := HJ14.out; omega
                 case rel => exact ⟨(ji26), (by first | rfl | (exact congrArg Value.bool (Eq.symm (by with_reducible assumption))) | (simp; done) | (simp only [← hji26] <;> (first | rfl | (simp; done))) | (simp [*]; done)), H', ⟨by have := HK1.out; have := HJ2.out; have := HJ14.out; omega⟩, ⟨by repeat (first | (with_reducible first | exact HB.out | apply below_alloc | apply pw_below_drewN | apply below_drew1 | refine below_set ?_ GE128.out) | exact HB.out)⟩⟩
                ·rw [if_neg c34] at H
                 have c34b0 : ((bt a0 (ji26)) == 36) = false := beq_eq_false_iff_ne.mpr c34
                 have c34b1 : ((bt a0 (ji26)) != 36) = true := bne_iff_ne.mpr c34
                 by_cases c36 : (bt a0 (ji26)) = 119
                 ·rw [if_pos c36] at H
                  have c36b0 : ((bt a0 (ji26)) == 119) = true := beq_iff_eq.mpr c36
                  have c36b1 : ((bt a0 (ji26)) != 119) = false := bne_eq_false_iff_eq.mpr c36
                  clear c36
                  have H' := Aside0.mk H
                  clear H
                  have p29 : 0 ≤ ((ji26) : Int) := of_decide_eq_true (by first | (with_reducible assumption) | assumption)
                  have q29 : (ji26) < (a0.size : Int) := of_decide_eq_true (by first | (with_reducible assumption) | assumption)
                  have hx29 := bt_at a0 (ji26)
                  replace p29 := eq_true p29
                  replace q29 := eq_true q29
                  have p31 : 0 ≤ ((ji26) : Int) := of_decide_eq_true (by first | (with_reducible assumption) | assumption)
                  have q31 : (ji26) < (a0.size : Int) := of_decide_eq_true (by first | (with_reducible assumption) | assumption)
                  have hx31 := bt_at a0 (ji26)
                  replace p31 := eq_true p31
                  replace q31 := eq_true q31
                  have p33 : 0 ≤ ((ji26) : Int) := of_decide_eq_true (by first | (with_reducible assumption) | assumption)
                  have q33 : (ji26) < (a0.size : Int) := of_decide_eq_true (by first | (with_reducible assumption) | assumption)
                  have hx33 := bt_at a0 (ji26)
                  replace p33 := eq_true p33
                  replace q33 := eq_true q33
                  have p35 : 0 ≤ ((ji26) : Int) := of_decide_eq_true (by first | (with_reducible assumption) | assumption)
                  have q35 : (ji26) < (a0.size : Int) := of_decide_eq_true (by first | (with_reducible assumption) | assumption)
                  have hx35 := bt_at a0 (ji26)
                  replace p35 := eq_true p35
                  replace q35 := eq_true q35
                  go_wp2
                  go_roundg kj14
                  case measure => have := HK1.out; have := HJ2.out; have := HJ14.out; omega
                  case rel => exact ⟨(ji26), (by first | rfl | (exact congrArg Value.bool (Eq.symm (by with_reducible assumption))) | (simp; done) | (simp only [← hji26] <;> (first | rfl | (simp; done))) | (simp [*]; done)), H', ⟨by have := HK1.out; have := HJ2.out; have := HJ14.out; omega⟩, ⟨by repeat (first | (with_reducible first | exact HB.out | apply below_alloc | apply pw_below_drewN | apply below_drew1 | refine below_set ?_ GE128.out) | exact HB.out)⟩⟩
                 ·rw [if_neg c36] at H
                  have c36b0 : ((bt a0 (ji26)) == 119) = false := beq_eq_false_iff_ne.mpr c36
                  have c36b1 : ((bt a0 (ji26)) != 119) = true := bne_iff_ne.mpr c36
                  have H' := Aside0.mk H
                  clear H
                  have p29 : 0 ≤ ((ji26) : Int) := of_decide_eq_true (by first | (with_reducible assumption) | assumption)
                  have q29 : (ji26) < (a0.size : Int) := of_decide_eq_true (by first | (with_reducible assumption) | assumption)
                  have hx29 := bt_at a0 (ji26)
                  replace p29 := eq_true p29
                  replace q29 := eq_true q29
                  have p31 : 0 ≤ ((ji26) : Int) := of_decide_eq_true (by first | (with_reducible assumption) | assumption)
                  have q31 : (ji26) < (a0.size : Int) := of_decide_eq_true (by first | (with_reducible assumption) | assumption)
                  have hx31 := bt_at a0 (ji26)
                  replace p31 := eq_true p31
                  replace q31 := eq_true q31
                  have p33 : 0 ≤ ((ji26) : Int) := of_decide_eq_true (by first | (with_reducible assumption) | assumption)
                  have q33 : (ji26) < (a0.size : Int) := of_decide_eq_true (by first | (with_reducible assumption) | assumption)
                  have hx33 := bt_at a0 (ji26)
                  replace p33 := eq_true p33
                  replace q33 := eq_true q33
                  have p35 : 0 ≤ ((ji26) : Int) := of_decide_eq_true (by first | (with_reducible assumption) | assumption)
                  have q35 : (ji26) < (a0.size : Int) := of_decide_eq_true (by first | (with_reducible assumption) | assumption)
                  have hx35 := bt_at a0 (ji26)
                  replace p35 := eq_true p35
                  replace q35 := eq_true q35
                  go_wp2
                  go_roundg kj14
                  case measure => have := HK1.out; have := HJ2.out; have := HJ14.out; omega
                  case rel => exact ⟨(wrap64 ((ji26) + 1)), (by first | rfl | (exact congrArg Value.bool (Eq.symm (by with_reducible assumption))) | (simp; done) | (simp only [← hji26] <;> (first | rfl | (simp; done))) | (simp [*]; done)), H', ⟨by have := HK1.out; have := HJ2.out; have := HJ14.out; omega⟩, ⟨by repeat (first | (with_reducible first | exact HB.out | apply below_alloc | apply pw_below_drewN | apply below_drew1 | refine below_set ?_ GE128.out) | exact HB.out)⟩⟩
             ·rw [if_neg c28] at H
              exact absurd H (by simp)
            ·rw [if_neg c27] at H
             exact absurd H (by simp)
        ·rw [if_neg c9] at H
         exact absurd H (by simp)
       ·rw [if_neg c8] at H
        exact absurd H (by simp)
   ·rw [if_neg c2] at H
    have c2b0 : decide (x3_1 < (a0.size : Int)) = false := decide_eq_false c2
    clear c2
    obtain rfl := Option.some.inj H
    go_wp2
    go_ret
    exact ⟨by first | rfl | (simp [errW_none, errW_some] <;> rfl) | (simp [*, errW_none, errW_some] <;> rfl), by repeat (first | (with_reducible first | exact HB.out | apply below_alloc | apply pw_below_drewN | apply below_drew1) | exact HB.out)⟩

/-! ### expand_Names: function 17 -/
def expand_Names.f (a0 : ByteArray) : Option (List ByteArray) := namesF a0
theorem expand_Names.calls (a0 : ByteArray) (r : List ByteArray) (w : World) (h : expand_Names.f a0 = some r) :
  Calls Tryd.prog 17 #[.string a0] w fun e w' => ∃ v0_ : Value, e = .returned v0_ ∧ Kd.R Kd.string 9 w' w.heap.size (fun _ => True) v0_ r ∧ Below w.heap.size w w' := names_calls a0 r w h

end Go.Proofs.YtifpjidkfemkfaaDoor.Xb
