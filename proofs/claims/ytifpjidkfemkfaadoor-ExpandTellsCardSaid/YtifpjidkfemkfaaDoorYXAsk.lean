/- The walk of expand.asks: an escape at the front of a text. -/
import Derived.Test.YtifpjidkfemkfaaDoorYXLow
import Derived.Test.YtifpjidkfemkfaaDoorYXB
import Derived.Test.YtifpjidkfemkfaaDoorYa0
import Derived.Test.YtifpjidkfemkfaaDoorYa1
set_option linter.unusedVariables false
set_option linter.unusedSimpArgs false
namespace Go.Proofs.YtifpjidkfemkfaaDoor
open Go.RowKit Go.Proofs.YtifpjidkfemkfaaDoorW.PrintWords Go.Proofs.YtifpjidkfemkfaaDoorW.PrintLast Go.Proofs.YtifpjidkfemkfaaDoorW.PrintMore Go.Proofs.YtifpjidkfemkfaaDoor.Xa
set_option linter.unusedVariables false
/-- What stands behind an escape's front of n bytes. -/
def askAt (s : ByteArray) (kd st n : Int) : Option (Int × ByteArray × Int × Int × Bool) := (expand_name.f (s.extract n.toNat s.size)).bind fun b => some (kd, b.1, st, wrap64 (n + b.2), decide (b.2 > 0))
def askF (s : ByteArray) : Option (Int × ByteArray × Int × Int × Bool) :=
  if (s.size : Int) < 3 then some (0, ⟨#[]⟩, 0, 0, false) else
  if bt s 0 = 92 then
    (if bt s 1 = 110 then (if bt s 2 = 43 then askAt s 110 1 3 else if bt s 2 = 45 then askAt s 110 (-1) 3 else askAt s 110 0 2)
    else if bt s 1 = 42 then askAt s 42 0 2 else if bt s 1 = 36 then askAt s 36 0 2 else some (0, ⟨#[]⟩, 0, 0, false))
  else some (0, ⟨#[]⟩, 0, 0, false)
theorem bcell {W w1 : World} (hb : Below W.heap.size W w1) : (∀ b o, b < W.heap.size → w1.cell? ⟨b, o, none⟩ = W.cell? ⟨b, o, none⟩) ∧ (∀ b o, b < W.heap.size → w1.frozen? ⟨b, o, none⟩ = W.frozen? ⟨b, o, none⟩) :=
  ⟨fun b o h => hb.cell (p := ⟨b, o, none⟩) h, fun b o h => hb.frozen (p := ⟨b, o, none⟩) h⟩
theorem res49 {w1 : World} {g c : Nat} {z0 z1 z2 z3 : Value} (h : w1.heap[g]? = some (.cells #[z0, z1, z2, z3] 49 (0, 0))) (hne : g ≠ c) (v1 v3 a b d f : Value) :
    ((((((w1.setCell ⟨c, 1, none⟩ v1).setCell ⟨c, 3, none⟩ v3).setCell ⟨g, 0, none⟩ a).setCell ⟨g, 1, none⟩ b).setCell ⟨g, 2, none⟩ d).setCell ⟨g, 3, none⟩ f).heap[g]? = some (.cells #[a, b, d, f] 49 (0, 0)) :=
  blk_put (blk_put (blk_put (blk_put (blk_far (blk_far h (p := ⟨c, 1, none⟩) hne v1) (p := ⟨c, 3, none⟩) hne v3) 0 a rfl) 1 b rfl) 2 d rfl) 3 f rfl
theorem bel49 {B : Nat} {w w1 : World} (h : Below B w w1) {g c : Nat} (hg : B ≤ g) (hc : B ≤ c) (v1 v3 a b d f : Value) :
    Below B w ((((((w1.setCell ⟨c, 1, none⟩ v1).setCell ⟨c, 3, none⟩ v3).setCell ⟨g, 0, none⟩ a).setCell ⟨g, 1, none⟩ b).setCell ⟨g, 2, none⟩ d).setCell ⟨g, 3, none⟩ f) :=
  (((((h.setCell (p := ⟨c, 1, none⟩) hc v1).setCell (p := ⟨c, 3, none⟩) hc v3).setCell (p := ⟨g, 0, none⟩) hg a).setCell (p := ⟨g, 1, none⟩) hg b).setCell (p := ⟨g, 2, none⟩) hg d).setCell (p := ⟨g, 3, none⟩) hg f
set_option maxHeartbeats 1000000 in
set_option maxRecDepth 100000 in
theorem asks_calls (s : ByteArray) (r1 : Int) (r2 : ByteArray) (r3 r4 : Int) (r5 : Bool) (w : World) (h : askF s = some (r1, r2, r3, r4, r5)) :
    Calls Tryd.prog 38 #[.string s] w fun e w' => e = .returned (.tuple #[.agg #[.int .u8 r1, .string r2, .int .i64 r3, .int .i64 r4], .bool r5]) ∧ Below w.heap.size w w' := by
  unfold askF at h
  by_cases h0 : (s.size : Int) < 3
  · rw [if_pos h0] at h
    have c1 : decide ((s.size : Int) < 3) = true := decide_eq_true h0
    clear h0
    simp only [Option.some.injEq, Prod.mk.injEq] at h
    obtain ⟨rfl, rfl, rfl, rfl, rfl⟩ := h
    go_enter Tryd.func38, Tryd.ntmps38
    go_wp2
    refine bodyPost_ret (v := .tuple #[.agg #[.int .u8 0, .string ⟨#[]⟩, .int .i64 0, .int .i64 0], .bool false]) (by simp [results, Tryd.results38, go_sem]) rfl ⟨rfl, ?_⟩
    repeat (first | exact Below.refl _ _ | refine Below.setCell ?_ (by simp) _ | refine Below.alloc ?_ (by simp) _)
  · rw [if_neg h0] at h
    have c1 : decide ((s.size : Int) < 3) = false := decide_eq_false h0
    have hx0 : ∀ h : 0 < s.size, ((s[0]'h).toNat : Int) = bt s 0 := bt_at s 0
    have qi0 : (0 < (s.size : Int)) = True := eq_true (by omega)
    have q0 : (0 < s.size) = True := eq_true (by omega)
    by_cases t0 : bt s 0 = 92
    · rw [if_pos t0] at h
      have t0a : (bt s 0 == 92) = true := beq_iff_eq.mpr t0
      have t0b : (bt s 0 != 92) = false := bne_eq_false_iff_eq.mpr t0
      clear t0
      have hx1 : ∀ h : 1 < s.size, ((s[1]'h).toNat : Int) = bt s 1 := bt_at s 1
      have qi1 : (1 < (s.size : Int)) = True := eq_true (by omega)
      have q1 : (1 < s.size) = True := eq_true (by omega)
      by_cases t1 : bt s 1 = 110
      · rw [if_pos t1] at h
        have t1a : (bt s 1 == 110) = true := beq_iff_eq.mpr t1
        have t1b : (bt s 1 != 110) = false := bne_eq_false_iff_eq.mpr t1
        have hx2 : ∀ h : 2 < s.size, ((s[2]'h).toNat : Int) = bt s 2 := bt_at s 2
        have qi2 : (2 < (s.size : Int)) = True := eq_true (by omega)
        have q2 : (2 < s.size) = True := eq_true (by omega)
        by_cases t2 : bt s 2 = 43
        · rw [if_pos t2] at h
          have t2a : (bt s 2 == 43) = true := beq_iff_eq.mpr t2
          have t2b : (bt s 2 != 43) = false := bne_eq_false_iff_eq.mpr t2
          clear t2
          unfold askAt at h
          rw [show ((3 : Int).toNat) = 3 from rfl] at h
          obtain ⟨sj, hsj⟩ : ∃ sj, s.extract 3 s.size = sj := ⟨_, rfl⟩
          rw [hsj] at h
          obtain ⟨⟨b1, b2⟩, A0, h⟩ := Option.bind_eq_some_iff.1 h
          have A := Aside0.mk A0
          clear A0
          simp only [Option.some.injEq, Prod.mk.injEq] at h
          obtain ⟨rfl, rfl, rfl, rfl, rfl⟩ := h
          have n1 : (3 ≤ (s.size : Int)) = True := eq_true (by omega)
          have n2 : decide (3 ≤ (s.size : Int)) = true := decide_eq_true (by omega)
          clear h0
          go_enter Tryd.func38, Tryd.ntmps38
          go_wp2_with (go_at_call 52; (with_reducible refine (expand_name.calls sj b1 b2 _ A.out).mono ?_); rintro e w1 ⟨rfl, hb⟩; (obtain ⟨hc, hf⟩ := bcell hb); (have hz : w.heap.size + 1 < w1.heap.size := by have := hb.size; simp at this; omega); (have Hb := Aside0.mk hb); clear hb)
          refine bodyPost_ret (results_ct rfl _ _ w.heap.size 49 #[.int .u8 110, .string b1, .int .i64 1, .int .i64 (wrap64 (3 + b2))] (0, 0) _ rfl (res49 (g := w.heap.size) (c := w.heap.size + 1) (blk_below (blk_alloc (blk_new w _) _) Hb.out) (by omega) (.string b1) (.int .i64 (wrap64 (3 + b2))) (.int .u8 110) (.string b1) (.int .i64 1) (.int .i64 (wrap64 (3 + b2)))) Tryd.underlying49 rfl (by kernel_rfl)) rfl ⟨by first | rfl | (simp; done), ?_⟩
          have Hb2 := ((((Below.refl w.heap.size w).alloc (Nat.le_refl _) _).alloc (by simp) _).trans (Hb.out.mono (by simp; omega)))
          exact bel49 Hb2 (Nat.le_refl _) (Nat.le_succ _) _ _ _ _ _ _
        · rw [if_neg t2] at h
          have t2a : (bt s 2 == 43) = false := beq_eq_false_iff_ne.mpr t2
          have t2b : (bt s 2 != 43) = true := bne_iff_ne.mpr t2
          clear t2
          by_cases t3 : bt s 2 = 45
          · rw [if_pos t3] at h
            have t3a : (bt s 2 == 45) = true := beq_iff_eq.mpr t3
            have t3b : (bt s 2 != 45) = false := bne_eq_false_iff_eq.mpr t3
            clear t3
            unfold askAt at h
            rw [show ((3 : Int).toNat) = 3 from rfl] at h
            obtain ⟨sj, hsj⟩ : ∃ sj, s.extract 3 s.size = sj := ⟨_, rfl⟩
            rw [hsj] at h
            obtain ⟨⟨b1, b2⟩, A0, h⟩ := Option.bind_eq_some_iff.1 h
            have A := Aside0.mk A0
            clear A0
            simp only [Option.some.injEq, Prod.mk.injEq] at h
            obtain ⟨rfl, rfl, rfl, rfl, rfl⟩ := h
            have n1 : (3 ≤ (s.size : Int)) = True := eq_true (by omega)
            have n2 : decide (3 ≤ (s.size : Int)) = true := decide_eq_true (by omega)
            clear h0
            go_enter Tryd.func38, Tryd.ntmps38
            go_wp2_with (go_at_call 52; (with_reducible refine (expand_name.calls sj b1 b2 _ A.out).mono ?_); rintro e w1 ⟨rfl, hb⟩; (obtain ⟨hc, hf⟩ := bcell hb); (have hz : w.heap.size + 1 < w1.heap.size := by have := hb.size; simp at this; omega); (have Hb := Aside0.mk hb); clear hb)
            refine bodyPost_ret (results_ct rfl _ _ w.heap.size 49 #[.int .u8 110, .string b1, .int .i64 (-1), .int .i64 (wrap64 (3 + b2))] (0, 0) _ rfl (res49 (g := w.heap.size) (c := w.heap.size + 1) (blk_below (blk_alloc (blk_new w _) _) Hb.out) (by omega) (.string b1) (.int .i64 (wrap64 (3 + b2))) (.int .u8 110) (.string b1) (.int .i64 (-1)) (.int .i64 (wrap64 (3 + b2)))) Tryd.underlying49 rfl (by kernel_rfl)) rfl ⟨by first | rfl | (simp; done), ?_⟩
            have Hb2 := ((((Below.refl w.heap.size w).alloc (Nat.le_refl _) _).alloc (by simp) _).trans (Hb.out.mono (by simp; omega)))
            exact bel49 Hb2 (Nat.le_refl _) (Nat.le_succ _) _ _ _ _ _ _
          · rw [if_neg t3] at h
            have t3a : (bt s 2 == 45) = false := beq_eq_false_iff_ne.mpr t3
            have t3b : (bt s 2 != 45) = true := bne_iff_ne.mpr t3
            clear t3
            unfold askAt at h
            rw [show ((2 : Int).toNat) = 2 from rfl] at h
            obtain ⟨sj, hsj⟩ : ∃ sj, s.extract 2 s.size = sj := ⟨_, rfl⟩
            rw [hsj] at h
            obtain ⟨⟨b1, b2⟩, A0, h⟩ := Option.bind_eq_some_iff.1 h
            have A := Aside0.mk A0
            clear A0
            simp only [Option.some.injEq, Prod.mk.injEq] at h
            obtain ⟨rfl, rfl, rfl, rfl, rfl⟩ := h
            have n1 : (2 ≤ (s.size : Int)) = True := eq_true (by omega)
            have n2 : decide (2 ≤ (s.size : Int)) = true := decide_eq_true (by omega)
            clear h0
            go_enter Tryd.func38, Tryd.ntmps38
            go_wp2_with (go_at_call 52; (with_reducible refine (expand_name.calls sj b1 b2 _ A.out).mono ?_); rintro e w1 ⟨rfl, hb⟩; (obtain ⟨hc, hf⟩ := bcell hb); (have hz : w.heap.size + 1 < w1.heap.size := by have := hb.size; simp at this; omega); (have Hb := Aside0.mk hb); clear hb)
            refine bodyPost_ret (results_ct rfl _ _ w.heap.size 49 #[.int .u8 110, .string b1, .int .i64 0, .int .i64 (wrap64 (2 + b2))] (0, 0) _ rfl (res49 (g := w.heap.size) (c := w.heap.size + 1) (blk_below (blk_alloc (blk_new w _) _) Hb.out) (by omega) (.string b1) (.int .i64 (wrap64 (2 + b2))) (.int .u8 110) (.string b1) (.int .i64 0) (.int .i64 (wrap64 (2 + b2)))) Tryd.underlying49 rfl (by kernel_rfl)) rfl ⟨by first | rfl | (simp; done), ?_⟩
            have Hb2 := ((((Below.refl w.heap.size w).alloc (Nat.le_refl _) _).alloc (by simp) _).trans (Hb.out.mono (by simp; omega)))
            exact bel49 Hb2 (Nat.le_refl _) (Nat.le_succ _) _ _ _ _ _ _
      · rw [if_neg t1] at h
        have t1a : (bt s 1 == 110) = false := beq_eq_false_iff_ne.mpr t1
        have t1b : (bt s 1 != 110) = true := bne_iff_ne.mpr t1
        clear t1
        by_cases t2 : bt s 1 = 42
        · rw [if_pos t2] at h
          have t2a : (bt s 1 == 42) = true := beq_iff_eq.mpr t2
          have t2b : (bt s 1 != 42) = false := bne_eq_false_iff_eq.mpr t2
          unfold askAt at h
          rw [show ((2 : Int).toNat) = 2 from rfl] at h
          obtain ⟨sj, hsj⟩ : ∃ sj, s.extract 2 s.size = sj := ⟨_, rfl⟩
          rw [hsj] at h
          obtain ⟨⟨b1, b2⟩, A0, h⟩ := Option.bind_eq_some_iff.1 h
          have A := Aside0.mk A0
          clear A0
          simp only [Option.some.injEq, Prod.mk.injEq] at h
          obtain ⟨rfl, rfl, rfl, rfl, rfl⟩ := h
          have n1 : (2 ≤ (s.size : Int)) = True := eq_true (by omega)
          have n2 : decide (2 ≤ (s.size : Int)) = true := decide_eq_true (by omega)
          clear h0
          go_enter Tryd.func38, Tryd.ntmps38
          go_wp2_with (go_at_call 52; (with_reducible refine (expand_name.calls sj b1 b2 _ A.out).mono ?_); rintro e w1 ⟨rfl, hb⟩; (obtain ⟨hc, hf⟩ := bcell hb); (have hz : w.heap.size + 1 < w1.heap.size := by have := hb.size; simp at this; omega); (have Hb := Aside0.mk hb); clear hb)
          refine bodyPost_ret (results_ct rfl _ _ w.heap.size 49 #[.int .u8 42, .string b1, .int .i64 0, .int .i64 (wrap64 (2 + b2))] (0, 0) _ rfl (res49 (g := w.heap.size) (c := w.heap.size + 1) (blk_below (blk_alloc (blk_new w _) _) Hb.out) (by omega) (.string b1) (.int .i64 (wrap64 (2 + b2))) (.int .u8 42) (.string b1) (.int .i64 0) (.int .i64 (wrap64 (2 + b2)))) Tryd.underlying49 rfl (by kernel_rfl)) rfl ⟨by first | rfl | (simp; done), ?_⟩
          have Hb2 := ((((Below.refl w.heap.size w).alloc (Nat.le_refl _) _).alloc (by simp) _).trans (Hb.out.mono (by simp; omega)))
          exact bel49 Hb2 (Nat.le_refl _) (Nat.le_succ _) _ _ _ _ _ _
        · rw [if_neg t2] at h
          have t2a : (bt s 1 == 42) = false := beq_eq_false_iff_ne.mpr t2
          have t2b : (bt s 1 != 42) = true := bne_iff_ne.mpr t2
          clear t2
          by_cases t3 : bt s 1 = 36
          · rw [if_pos t3] at h
            have t3a : (bt s 1 == 36) = true := beq_iff_eq.mpr t3
            have t3b : (bt s 1 != 36) = false := bne_eq_false_iff_eq.mpr t3
            unfold askAt at h
            rw [show ((2 : Int).toNat) = 2 from rfl] at h
            obtain ⟨sj, hsj⟩ : ∃ sj, s.extract 2 s.size = sj := ⟨_, rfl⟩
            rw [hsj] at h
            obtain ⟨⟨b1, b2⟩, A0, h⟩ := Option.bind_eq_some_iff.1 h
            have A := Aside0.mk A0
            clear A0
            simp only [Option.some.injEq, Prod.mk.injEq] at h
            obtain ⟨rfl, rfl, rfl, rfl, rfl⟩ := h
            have n1 : (2 ≤ (s.size : Int)) = True := eq_true (by omega)
            have n2 : decide (2 ≤ (s.size : Int)) = true := decide_eq_true (by omega)
            clear h0
            go_enter Tryd.func38, Tryd.ntmps38
            go_wp2_with (go_at_call 52; (with_reducible refine (expand_name.calls sj b1 b2 _ A.out).mono ?_); rintro e w1 ⟨rfl, hb⟩; (obtain ⟨hc, hf⟩ := bcell hb); (have hz : w.heap.size + 1 < w1.heap.size := by have := hb.size; simp at this; omega); (have Hb := Aside0.mk hb); clear hb)
            refine bodyPost_ret (results_ct rfl _ _ w.heap.size 49 #[.int .u8 36, .string b1, .int .i64 0, .int .i64 (wrap64 (2 + b2))] (0, 0) _ rfl (res49 (g := w.heap.size) (c := w.heap.size + 1) (blk_below (blk_alloc (blk_new w _) _) Hb.out) (by omega) (.string b1) (.int .i64 (wrap64 (2 + b2))) (.int .u8 36) (.string b1) (.int .i64 0) (.int .i64 (wrap64 (2 + b2)))) Tryd.underlying49 rfl (by kernel_rfl)) rfl ⟨by first | rfl | (simp; done), ?_⟩
            have Hb2 := ((((Below.refl w.heap.size w).alloc (Nat.le_refl _) _).alloc (by simp) _).trans (Hb.out.mono (by simp; omega)))
            exact bel49 Hb2 (Nat.le_refl _) (Nat.le_succ _) _ _ _ _ _ _
          · rw [if_neg t3] at h
            have t3a : (bt s 1 == 36) = false := beq_eq_false_iff_ne.mpr t3
            have t3b : (bt s 1 != 36) = true := bne_iff_ne.mpr t3
            clear t3
            simp only [Option.some.injEq, Prod.mk.injEq] at h
            obtain ⟨rfl, rfl, rfl, rfl, rfl⟩ := h
            go_enter Tryd.func38, Tryd.ntmps38
            go_wp2
            refine bodyPost_ret (v := .tuple #[.agg #[.int .u8 0, .string ⟨#[]⟩, .int .i64 0, .int .i64 0], .bool false]) (by simp [results, Tryd.results38, go_sem]) rfl ⟨rfl, ?_⟩
            repeat (first | exact Below.refl _ _ | refine Below.setCell ?_ (by simp) _ | refine Below.alloc ?_ (by simp) _)
    · rw [if_neg t0] at h
      have t0a : (bt s 0 == 92) = false := beq_eq_false_iff_ne.mpr t0
      have t0b : (bt s 0 != 92) = true := bne_iff_ne.mpr t0
      clear t0
      simp only [Option.some.injEq, Prod.mk.injEq] at h
      obtain ⟨rfl, rfl, rfl, rfl, rfl⟩ := h
      go_enter Tryd.func38, Tryd.ntmps38
      go_wp2
      refine bodyPost_ret (v := .tuple #[.agg #[.int .u8 0, .string ⟨#[]⟩, .int .i64 0, .int .i64 0], .bool false]) (by simp [results, Tryd.results38, go_sem]) rfl ⟨rfl, ?_⟩
      repeat (first | exact Below.refl _ _ | refine Below.setCell ?_ (by simp) _ | refine Below.alloc ?_ (by simp) _)
end Go.Proofs.YtifpjidkfemkfaaDoor
