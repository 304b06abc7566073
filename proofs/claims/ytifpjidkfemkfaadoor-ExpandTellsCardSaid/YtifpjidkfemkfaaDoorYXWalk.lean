/- The walk over escapes (expand.walk) at whatever function value that keeps a state; Plain and Names by it. -/
import Derived.Test.YtifpjidkfemkfaaDoorYXAsk
import Derived.Test.YtifpjidkfemkfaaDoorYa0
import Derived.Test.YtifpjidkfemkfaaDoorYa1
set_option linter.unusedVariables false
set_option linter.unusedSimpArgs false
namespace Go.Proofs.YtifpjidkfemkfaaDoor
open Go.RowKit Go.Proofs.YtifpjidkfemkfaaDoorW.PrintWords Go.Proofs.YtifpjidkfemkfaaDoorW.PrintLast Go.Proofs.YtifpjidkfemkfaaDoorW.PrintMore Go.Proofs.YtifpjidkfemkfaaDoor.Xa
set_option linter.unusedVariables false
section
variable {σ : Type} (st : σ → Int → ByteArray → ByteArray → Option (σ × Bool))
/-- What expand.walk comes to: st is what is done at an escape (its kind, its name, its text). -/
def walkF : Nat → ByteArray → σ → Option (Bool × σ)
  | 0, _, _ => none
  | k + 1, s, x =>
    if s.toList = ([] : List UInt8) then some (false, x) else
    if Lib.indexByte s.data.toList 92 < 0 then some (false, x) else
    if Lib.indexByte s.data.toList 92 ≤ (s.size : Int) then
      (askF (s.extract (Lib.indexByte s.data.toList 92).toNat s.size)).bind fun a =>
        if a.2.2.2.2 = true then (st x a.1 a.2.1 ⟨#[]⟩).bind fun q =>
          if q.2 = true then (if 0 ≤ a.2.2.2.1 then (if a.2.2.2.1 ≤ ((s.extract (Lib.indexByte s.data.toList 92).toNat s.size).size : Int) then walkF k ((s.extract (Lib.indexByte s.data.toList 92).toNat s.size).extract a.2.2.2.1.toNat (s.extract (Lib.indexByte s.data.toList 92).toNat s.size).size) q.1 else none) else none)
          else some (false, q.1)
        else (expand_width.f 1 (s.extract (Lib.indexByte s.data.toList 92).toNat s.size)).bind fun b =>
          if b.2 > 0 then (st x 119 ⟨#[]⟩ b.1).bind fun q =>
            if q.2 = true then (if b.2 ≤ ((s.extract (Lib.indexByte s.data.toList 92).toNat s.size).size : Int) then walkF k ((s.extract (Lib.indexByte s.data.toList 92).toNat s.size).extract b.2.toNat (s.extract (Lib.indexByte s.data.toList 92).toNat s.size).size) q.1 else none)
            else some (false, q.1)
          else if ((s.extract (Lib.indexByte s.data.toList 92).toNat s.size).size : Int) = 1 then some (false, x)
          else if 1 < ((s.extract (Lib.indexByte s.data.toList 92).toNat s.size).size : Int) then
            (if bt (s.extract (Lib.indexByte s.data.toList 92).toNat s.size) 1 = 34 then some (true, x)
            else if Lib.indexByte [110, 42, 36, 119] (bt (s.extract (Lib.indexByte s.data.toList 92).toNat s.size) 1).toNat.toUInt8 ≥ 0 then walkF k ((s.extract (Lib.indexByte s.data.toList 92).toNat s.size).extract 1 (s.extract (Lib.indexByte s.data.toList 92).toNat s.size).size) x
            else walkF k ((s.extract (Lib.indexByte s.data.toList 92).toNat s.size).extract 2 (s.extract (Lib.indexByte s.data.toList 92).toNat s.size).size) x)
          else none
    else none
end
/-- Blocks of an escape's type stand as they stood. -/
def Kept49 (W W' : World) : Prop := ∀ (i : Nat) (a : Array Value) (fz : Nat × Nat), W.heap[i]? = some (Obj.cells a 49 fz) → W'.heap[i]? = some (Obj.cells a 49 fz)
/-- What is asked of a function value that is called at each escape: it keeps a state. -/
structure EachOk {σ : Type} (E p base : Nat) (Inv : σ → World → Prop) (st : σ → Int → ByteArray → ByteArray → Option (σ × Bool)) (w0 : World) : Prop where
  call : ∀ (W : World) (x : σ) (kd : Int) (nm : ByteArray) (sp sz : Int) (tx : ByteArray) (x' : σ) (g : Bool), Inv x W → Below base w0 W → st x kd nm tx = some (x', g) →
    Calls Tryd.prog E #[.agg #[.int .u8 kd, .string nm, .int .i64 sp, .int .i64 sz], .string tx, .pointer (some ⟨p, 0, none⟩)] W fun e W' => e = .returned (.bool g) ∧ Aside0 (Inv x' W' ∧ Below base w0 W' ∧ Kept49 W W' ∧ W.heap.size ≤ W'.heap.size)
  keep : ∀ (W W' : World) (x : σ), Inv x W → Below W.heap.size W W' → Inv x W'
  low : base ≤ w0.heap.size
theorem EachOk.later {σ : Type} {E p base : Nat} {Inv : σ → World → Prop} {st : σ → Int → ByteArray → ByteArray → Option (σ × Bool)} {w0 : World} (h : EachOk E p base Inv st w0) {W W' : World} {x : σ} (hi : Inv x W) (hb : Below base w0 W) (hw : Below W.heap.size W W') : Inv x W' ∧ Below base w0 W' :=
  ⟨h.keep _ _ _ hi hw, below_then hb (Nat.le_trans h.low hb.size) hw⟩
theorem EachOk.step {σ : Type} {E p base : Nat} {Inv : σ → World → Prop} {st : σ → Int → ByteArray → ByteArray → Option (σ × Bool)} {w0 : World} (h : EachOk E p base Inv st w0) {W W' : World} {x : σ} (hi : Inv x W ∧ Below base w0 W) (hw : Below W.heap.size W W') : Inv x W' ∧ Below base w0 W' :=
  h.later hi.1 hi.2 hw
theorem below_one (W : World) (o : Obj) : Below W.heap.size W (W.alloc o) := (Below.refl _ W).alloc (Nat.le_refl _) o
theorem below_ds (W : World) (n : Nat) : Below W.heap.size W (W.drewN n) := Drawn0.below ⟨⟨n, rfl⟩⟩
set_option maxHeartbeats 4000000 in
set_option maxRecDepth 100000 in
theorem walk_calls {σ : Type} {E p base : Nat} {Inv : σ → World → Prop} {st : σ → Int → ByteArray → ByteArray → Option (σ × Bool)} (k : Nat) (s0 : ByteArray) (x0 : σ) (b : Bool) (x' : σ) (w : World)
    (eg : ∀ args w, (callFunc E args).run Tryd.prog w = .ok (.enter E args) w) (hE : EachOk E p base Inv st w) (hI : Inv x0 w) (h : walkF st k s0 x0 = some (b, x')) :
    Calls Tryd.prog 26 #[.string s0, .func (.func E) #[] #[.pointer (some ⟨p, 0, none⟩)]] w fun e w' => e = .returned (.bool b) ∧ Aside0 (Inv x' w' ∧ Below base w w') := by
  have H0 := Aside0.mk h
  have HI0 := Aside0.mk hI
  have HE := Aside0.mk hE
  have HB0 := Aside0.mk (Below.refl base w)
  clear h hI hE
  go_enter Tryd.func26, Tryd.ntmps26
  go_wp2
  go_loopg [0] k (fun kq v0 wx => ∃ (s : ByteArray) (x : σ), v0 = .string s ∧ Aside0 (walkF st kq s x = some (b, x')) ∧ Aside0 (Inv x wx) ∧ Aside0 (Below base w wx))
  case atStart => exact ⟨s0, x0, rfl, H0, HI0, HB0⟩
  case round =>
    clear H0 HI0 HB0
    obtain ⟨s, x, rfl, HA, HI, HB⟩ := hrel
    cases gk with
    | zero => exact absurd HA.out (by simp [walkF])
    | succ k1 =>
      have H := HA.out
      clear HA
      rw [walkF] at H
      by_cases c0 : s.toList = ([] : List UInt8)
      · rw [if_pos c0] at H
        have c0b0 : (s.toList == ([] : List UInt8)) = true := beq_iff_eq.mpr c0
        have c0b1 : (s.toList != ([] : List UInt8)) = false := bne_eq_false_iff_eq.mpr c0
        clear c0
        simp only [Option.some.injEq, Prod.mk.injEq] at H
        obtain ⟨rfl, rfl⟩ := H
        go_wp2
        go_ret
        exact ⟨rfl, ⟨HI.out, HB.out⟩⟩
      · rw [if_neg c0] at H
        have c0b0 : (s.toList == ([] : List UInt8)) = false := beq_eq_false_iff_ne.mpr c0
        have c0b1 : (s.toList != ([] : List UInt8)) = true := bne_iff_ne.mpr c0
        clear c0
        obtain ⟨n, hn⟩ : ∃ n, Lib.indexByte s.data.toList 92 = n := ⟨_, rfl⟩
        rw [hn] at H
        have c36 : ∀ W, Calls Tryd.prog 36 #[.string s, .int .u8 92] W fun e W' => e = .returned (.int .i64 n) ∧ W' = W := fun W => by rw [← hn]; exact Tryd.strings_IndexByte s 92 W
        clear hn
        by_cases c1 : n < 0
        · rw [if_pos c1] at H
          have c1b0 : decide (n < 0) = true := decide_eq_true c1
          clear c1
          simp only [Option.some.injEq, Prod.mk.injEq] at H
          obtain ⟨rfl, rfl⟩ := H
          go_wp2_with (go_at_call 36; (with_reducible refine (c36 _).mono ?_); rintro e w' ⟨rfl, rfl⟩)
          go_ret
          exact ⟨rfl, ⟨HI.out, HB.out⟩⟩
        · rw [if_neg c1] at H
          have c1b0 : decide (n < 0) = false := decide_eq_false c1
          have c1b1 : (0 ≤ n) = True := eq_true (by omega)
          have c1b2 : decide (0 ≤ n) = true := decide_eq_true (by omega)
          clear c1
          by_cases c2 : n ≤ (s.size : Int)
          · rw [if_pos c2] at H
            have c2b0 := eq_true c2
            have c2b1 : decide (n ≤ (s.size : Int)) = true := decide_eq_true c2
            clear c2
            obtain ⟨s1, hs1⟩ : ∃ s1, s.extract n.toNat s.size = s1 := ⟨_, rfl⟩
            rw [hs1] at H
            obtain ⟨⟨a1, a2, a3, a4, a5⟩, A38, H⟩ := Option.bind_eq_some_iff.1 H
            have A38' := Aside0.mk A38
            clear A38
            cases a5 with
            | true =>
              simp only [if_true] at H
              obtain ⟨⟨q1, q2⟩, AS, H⟩ := Option.bind_eq_some_iff.1 H
              have AS' := Aside0.mk AS
              clear AS
              cases q2 with
              | false =>
                simp only [Bool.false_eq_true, if_false, Option.some.injEq, Prod.mk.injEq] at H
                obtain ⟨rfl, rfl⟩ := H
                go_wp2_with (first | (go_at_call 36; (with_reducible refine (c36 _).mono ?_); rintro e w' ⟨rfl, rfl⟩) | (go_at_call 38; (with_reducible refine (asks_calls s1 a1 a2 a3 a4 true _ A38'.out).mono ?_); rintro e w1 ⟨rfl, hb38⟩; (have HC := Aside0.mk (HE.out.step (HE.out.step ⟨HI.out, HB.out⟩ hb38) (below_one w1 (.cells #[.int .u8 a1, .string a2, .int .i64 a3, .int .i64 a4] 49)))); clear hb38) | (go_at_fn E; (with_reducible refine (HE.out.call _ x a1 a2 a3 a4 ⟨#[]⟩ q1 false HC.out.1 HC.out.2 AS'.out).mono ?_); rintro e W3 ⟨rfl, H3⟩))
                go_ret
                exact ⟨rfl, ⟨H3.out.1, H3.out.2.1⟩⟩
              | true =>
                simp only [if_true] at H
                by_cases c3 : 0 ≤ a4
                · rw [if_pos c3] at H
                  have c3b0 := eq_true c3
                  have c3b1 : decide (0 ≤ a4) = true := decide_eq_true c3
                  clear c3
                  by_cases c4 : a4 ≤ (s1.size : Int)
                  · rw [if_pos c4] at H
                    have c4b0 := eq_true c4
                    have c4b1 : decide (a4 ≤ (s1.size : Int)) = true := decide_eq_true c4
                    clear c4
                    have H' := Aside0.mk H
                    clear H
                    go_wp2_with (first | (go_at_call 36; (with_reducible refine (c36 _).mono ?_); rintro e w' ⟨rfl, rfl⟩) | (go_at_call 38; (with_reducible refine (asks_calls s1 a1 a2 a3 a4 true _ A38'.out).mono ?_); rintro e w1 ⟨rfl, hb38⟩; (have HC := Aside0.mk (HE.out.step (HE.out.step ⟨HI.out, HB.out⟩ hb38) (below_one w1 (.cells #[.int .u8 a1, .string a2, .int .i64 a3, .int .i64 a4] 49)))); clear hb38) | (go_at_fn E; (with_reducible refine (HE.out.call _ x a1 a2 a3 a4 ⟨#[]⟩ q1 true HC.out.1 HC.out.2 AS'.out).mono ?_); rintro e W3 ⟨rfl, H3⟩; (have hz : W3.cell? ⟨w1.heap.size, 3, none⟩ = some (.int .i64 a4) := (blk_cell (H3.out.2.2.1 _ _ _ (heap_alloc_new w1 _)) 3).trans rfl)))
                    go_roundg k1
                    case measure => omega
                    case rel => exact ⟨_, _, rfl, H', ⟨H3.out.1⟩, ⟨H3.out.2.1⟩⟩
                  · rw [if_neg c4] at H
                    exact absurd H (by simp)
                · rw [if_neg c3] at H
                  exact absurd H (by simp)
            | false =>
              simp only [Bool.false_eq_true, if_false] at H
              obtain ⟨⟨b1, b2⟩, A41, H⟩ := Option.bind_eq_some_iff.1 H
              have A41' := Aside0.mk A41
              clear A41
              by_cases c5 : b2 > 0
              · rw [if_pos c5] at H
                have c5b0 : decide (0 < b2) = true := decide_eq_true c5
                have c5b1 : decide (0 ≤ b2) = true := decide_eq_true (by omega)
                have c5b2 : (0 ≤ b2) = True := eq_true (by omega)
                clear c5
                obtain ⟨⟨q1, q2⟩, AS, H⟩ := Option.bind_eq_some_iff.1 H
                have AS' := Aside0.mk AS
                clear AS
                cases q2 with
                | false =>
                  simp only [Bool.false_eq_true, if_false, Option.some.injEq, Prod.mk.injEq] at H
                  obtain ⟨rfl, rfl⟩ := H
                  go_wp2_with (first | (go_at_call 36; (with_reducible refine (c36 _).mono ?_); rintro e w' ⟨rfl, rfl⟩) | (go_at_call 38; (with_reducible refine (asks_calls s1 a1 a2 a3 a4 false _ A38'.out).mono ?_); rintro e w1 ⟨rfl, hb38⟩; (have HC := Aside0.mk (HE.out.step (HE.out.step ⟨HI.out, HB.out⟩ hb38) (below_one w1 (.cells #[.int .u8 a1, .string a2, .int .i64 a3, .int .i64 a4] 49)))); clear hb38) | (go_at_call 41; (with_reducible refine (expand_width.calls 1 s1 b1 b2 _ A41'.out).mono ?_); rintro e w2 ⟨rfl, ⟨nd, rfl⟩⟩) | (go_at_fn E; (with_reducible refine (HE.out.call _ x 119 ⟨#[]⟩ 0 0 b1 q1 false (HE.out.step HC.out (below_ds _ _)).1 (HE.out.step HC.out (below_ds _ _)).2 AS'.out).mono ?_); rintro e W3 ⟨rfl, H3⟩))
                  go_ret
                  exact ⟨rfl, ⟨H3.out.1, H3.out.2.1⟩⟩
                | true =>
                  simp only [if_true] at H
                  by_cases c6 : b2 ≤ (s1.size : Int)
                  · rw [if_pos c6] at H
                    have c6b0 := eq_true c6
                    have c6b1 : decide (b2 ≤ (s1.size : Int)) = true := decide_eq_true c6
                    clear c6
                    have H' := Aside0.mk H
                    clear H
                    go_wp2_with (first | (go_at_call 36; (with_reducible refine (c36 _).mono ?_); rintro e w' ⟨rfl, rfl⟩) | (go_at_call 38; (with_reducible refine (asks_calls s1 a1 a2 a3 a4 false _ A38'.out).mono ?_); rintro e w1 ⟨rfl, hb38⟩; (have HC := Aside0.mk (HE.out.step (HE.out.step ⟨HI.out, HB.out⟩ hb38) (below_one w1 (.cells #[.int .u8 a1, .string a2, .int .i64 a3, .int .i64 a4] 49)))); clear hb38) | (go_at_call 41; (with_reducible refine (expand_width.calls 1 s1 b1 b2 _ A41'.out).mono ?_); rintro e w2 ⟨rfl, ⟨nd, rfl⟩⟩) | (go_at_fn E; (with_reducible refine (HE.out.call _ x 119 ⟨#[]⟩ 0 0 b1 q1 true (HE.out.step HC.out (below_ds _ _)).1 (HE.out.step HC.out (below_ds _ _)).2 AS'.out).mono ?_); rintro e W3 ⟨rfl, H3⟩))
                    go_roundg k1
                    case measure => omega
                    case rel => exact ⟨_, _, rfl, H', ⟨H3.out.1⟩, ⟨H3.out.2.1⟩⟩
                  · rw [if_neg c6] at H
                    exact absurd H (by simp)
              · rw [if_neg c5] at H
                have c5b0 : decide (0 < b2) = false := decide_eq_false c5
                clear c5
                by_cases c7 : (s1.size : Int) = 1
                · rw [if_pos c7] at H
                  have c7b0 : ((s1.size : Int) == 1) = true := beq_iff_eq.mpr c7
                  have c7b1 : ((s1.size : Int) != 1) = false := bne_eq_false_iff_eq.mpr c7
                  clear c7
                  simp only [Option.some.injEq, Prod.mk.injEq] at H
                  obtain ⟨rfl, rfl⟩ := H
                  go_wp2_with (first | (go_at_call 36; (with_reducible refine (c36 _).mono ?_); rintro e w' ⟨rfl, rfl⟩) | (go_at_call 38; (with_reducible refine (asks_calls s1 a1 a2 a3 a4 false _ A38'.out).mono ?_); rintro e w1 ⟨rfl, hb38⟩; (have HC := Aside0.mk (HE.out.step (HE.out.step ⟨HI.out, HB.out⟩ hb38) (below_one w1 (.cells #[.int .u8 a1, .string a2, .int .i64 a3, .int .i64 a4] 49)))); clear hb38) | (go_at_call 41; (with_reducible refine (expand_width.calls 1 s1 b1 b2 _ A41'.out).mono ?_); rintro e w2 ⟨rfl, ⟨nd, rfl⟩⟩))
                  go_ret
                  exact ⟨rfl, ⟨HE.out.step HC.out (below_ds _ _)⟩⟩
                · rw [if_neg c7] at H
                  have c7b0 : ((s1.size : Int) == 1) = false := beq_eq_false_iff_ne.mpr c7
                  have c7b1 : ((s1.size : Int) != 1) = true := bne_iff_ne.mpr c7
                  clear c7
                  by_cases c8 : 1 < (s1.size : Int)
                  · rw [if_pos c8] at H
                    have hx1 : ∀ h : 1 < s1.size, ((s1[1]'h).toNat : Int) = bt s1 1 := bt_at s1 1
                    have qi1 : (1 < (s1.size : Int)) = True := eq_true c8
                    have q1' : (1 < s1.size) = True := eq_true (by omega)
                    have q2' : (1 ≤ (s1.size : Int)) = True := eq_true (by omega)
                    have q2b : decide (1 ≤ (s1.size : Int)) = true := decide_eq_true (by omega)
                    have q3' : (2 ≤ (s1.size : Int)) = True := eq_true (by omega)
                    have q3b : decide (2 ≤ (s1.size : Int)) = true := decide_eq_true (by omega)
                    clear c8
                    by_cases c9 : bt s1 1 = 34
                    · rw [if_pos c9] at H
                      have c9b0 : (bt s1 1 == 34) = true := beq_iff_eq.mpr c9
                      have c9b1 : (bt s1 1 != 34) = false := bne_eq_false_iff_eq.mpr c9
                      clear c9
                      simp only [Option.some.injEq, Prod.mk.injEq] at H
                      obtain ⟨rfl, rfl⟩ := H
                      go_wp2_with (first | (go_at_call 36; (with_reducible refine (c36 _).mono ?_); rintro e w' ⟨rfl, rfl⟩) | (go_at_call 38; (with_reducible refine (asks_calls s1 a1 a2 a3 a4 false _ A38'.out).mono ?_); rintro e w1 ⟨rfl, hb38⟩; (have HC := Aside0.mk (HE.out.step (HE.out.step ⟨HI.out, HB.out⟩ hb38) (below_one w1 (.cells #[.int .u8 a1, .string a2, .int .i64 a3, .int .i64 a4] 49)))); clear hb38) | (go_at_call 41; (with_reducible refine (expand_width.calls 1 s1 b1 b2 _ A41'.out).mono ?_); rintro e w2 ⟨rfl, ⟨nd, rfl⟩⟩))
                      go_ret
                      exact ⟨rfl, ⟨HE.out.step HC.out (below_ds _ _)⟩⟩
                    · rw [if_neg c9] at H
                      have c9b0 : (bt s1 1 == 34) = false := beq_eq_false_iff_ne.mpr c9
                      have c9b1 : (bt s1 1 != 34) = true := bne_iff_ne.mpr c9
                      clear c9
                      obtain ⟨m, hm⟩ : ∃ m, Lib.indexByte [110, 42, 36, 119] (bt s1 1).toNat.toUInt8 = m := ⟨_, rfl⟩
                      rw [hm] at H
                      have c36b : ∀ W, Calls Tryd.prog 36 #[.string ⟨#[110, 42, 36, 119]⟩, .int .u8 (bt s1 1)] W fun e W' => e = .returned (.int .i64 m) ∧ W' = W := fun W => by rw [← hm]; exact Tryd.strings_IndexByte ⟨#[110, 42, 36, 119]⟩ (bt s1 1) W
                      clear hm
                      by_cases c10 : m ≥ 0
                      · rw [if_pos c10] at H
                        have c10b0 : decide (0 ≤ m) = true := decide_eq_true c10
                        clear c10
                        have H' := Aside0.mk H
                        clear H
                        go_wp2_with (first | (go_at_call 36; (with_reducible refine (c36 _).mono ?_); rintro e w' ⟨rfl, rfl⟩) | (go_at_call 38; (with_reducible refine (asks_calls s1 a1 a2 a3 a4 false _ A38'.out).mono ?_); rintro e w1 ⟨rfl, hb38⟩; (have HC := Aside0.mk (HE.out.step (HE.out.step ⟨HI.out, HB.out⟩ hb38) (below_one w1 (.cells #[.int .u8 a1, .string a2, .int .i64 a3, .int .i64 a4] 49)))); clear hb38) | (go_at_call 41; (with_reducible refine (expand_width.calls 1 s1 b1 b2 _ A41'.out).mono ?_); rintro e w2 ⟨rfl, ⟨nd, rfl⟩⟩) | (go_at_call 36; (with_reducible refine (c36b _).mono ?_); rintro e w' ⟨rfl, rfl⟩))
                        go_roundg k1
                        case measure => omega
                        case rel => exact ⟨_, _, rfl, H', ⟨(HE.out.step HC.out (below_ds _ _)).1⟩, ⟨(HE.out.step HC.out (below_ds _ _)).2⟩⟩
                      · rw [if_neg c10] at H
                        have c10b0 : decide (0 ≤ m) = false := decide_eq_false c10
                        clear c10
                        have H' := Aside0.mk H
                        clear H
                        go_wp2_with (first | (go_at_call 36; (with_reducible refine (c36 _).mono ?_); rintro e w' ⟨rfl, rfl⟩) | (go_at_call 38; (with_reducible refine (asks_calls s1 a1 a2 a3 a4 false _ A38'.out).mono ?_); rintro e w1 ⟨rfl, hb38⟩; (have HC := Aside0.mk (HE.out.step (HE.out.step ⟨HI.out, HB.out⟩ hb38) (below_one w1 (.cells #[.int .u8 a1, .string a2, .int .i64 a3, .int .i64 a4] 49)))); clear hb38) | (go_at_call 41; (with_reducible refine (expand_width.calls 1 s1 b1 b2 _ A41'.out).mono ?_); rintro e w2 ⟨rfl, ⟨nd, rfl⟩⟩) | (go_at_call 36; (with_reducible refine (c36b _).mono ?_); rintro e w' ⟨rfl, rfl⟩))
                        go_roundg k1
                        case measure => omega
                        case rel => exact ⟨_, _, rfl, H', ⟨(HE.out.step HC.out (below_ds _ _)).1⟩, ⟨(HE.out.step HC.out (below_ds _ _)).2⟩⟩
                  · rw [if_neg c8] at H
                    exact absurd H (by simp)
          · rw [if_neg c2] at H
            exact absurd H (by simp)
end Go.Proofs.YtifpjidkfemkfaaDoor
