/- Layer 19, the plain law of CurveParses. -/
import Derived.Test.YteiffkhkannfdaaDoorYXC3
import Derived.Test.YteiffkhkannfdaaDoorYb0
import Derived.Test.YteiffkhkannfdaaDoorYb2
import Derived.Test.YteiffkhkannfdaaDoorYb3
set_option linter.unusedVariables false
set_option linter.unusedSimpArgs false
namespace Go.Proofs.YteiffkhkannfdaaDoor.Pure
open Go.RowKit Go.Proofs.YteiffkhkannfdaaDoor Go.Proofs.YteiffkhkannfdaaDoor.Xb Go.Proofs.YteiffkhkannfdaaDoorW.PrintWords Go.Proofs.YteiffkhkannfdaaDoorW.PrintLast Go.Proofs.YteiffkhkannfdaaDoorW.PrintMore
theorem numbers_l (l : List Int) (hn : l.length ≤ 1048576) : ∀ (d i : Nat), i + d = l.length → Ev (fun k => frisketlaw19_numbers.l0 k l l (i : Int)) true
  | 0, i, hi => by
    refine Ev.done (fun k => ?_)
    rw [frisketlaw19_numbers.l0, if_neg (by omega)]
  | d + 1, i, hi => by
    refine Ev.goes (numbers_l l hn d (i + 1) (by omega)) (fun k => ?_)
    rw [frisketlaw19_numbers.l0, if_pos (by omega), if_pos (by omega), if_pos (by omega), if_pos rfl, w64s (show i < l.length by omega) (by omega)]
theorem numbers_same (l : List Int) (hn : l.length ≤ 1048576) : Ev (fun k => frisketlaw19_numbers.f k l l) true := by
  have h := numbers_l l hn l.length 0 (by omega)
  refine Ev.congr (fun k => ?_) h
  rw [frisketlaw19_numbers.f, if_pos rfl]
  rfl
theorem nth_f (l : List Int) (i : Int) (a : Int) (hi : 0 ≤ i) (ha : 1 ≤ a ∧ a ≤ 1000000) : ∃ x, frisketlaw19_nth.f l i a = some x ∧ -a ≤ x ∧ x ≤ a := by
  unfold frisketlaw19_nth.f
  have e1 : IntKind.u64.wrap (wrap64 (wrap64 (2 * a) + 1)) = 2 * a + 1 := by
    rw [w64 (x := 2 * a) (by omega) (by omega), w64 (by omega) (by omega)]
    simp [IntKind.wrap, IntKind.signed, IntKind.bits]
    omega
  have h0 : 0 ≤ IntKind.u64.wrap (rd l i) := by
    simp [IntKind.wrap, IntKind.signed, IntKind.bits]
    omega
  have h1 := Int.tmod_nonneg (2 * a + 1) h0
  have h2 := Int.tmod_lt_of_pos (IntKind.u64.wrap (rd l i)) (show (0 : Int) < 2 * a + 1 by omega)
  split
  · rw [e1, if_neg (by omega)]
    exact ⟨_, rfl, by rw [w64 (x := Int.tmod _ _) (by omega) (by omega), w64 (by omega) (by omega)]; omega, by rw [w64 (x := Int.tmod _ _) (by omega) (by omega), w64 (by omega) (by omega)]; omega⟩
  · exact ⟨0, rfl, by omega, by omega⟩
theorem no_far {n : List Int} (h : ∀ x ∈ n, -1000000 ≤ x ∧ x ≤ 1000000) : n.any farB = false :=
  List.any_eq_false.2 (fun x hx => by have := h x hx; unfold farB; simp; omega)
theorem stroke_l (l : List Int) (hn : l.length ≤ 9223372036854775807) (s : Int) (hs : 1 ≤ s ∧ s ≤ 1000000) : ∀ (d j : Nat) (acc : List Int), j + d = 20 → 1 ≤ j → acc.length = 2 * j → (∀ x ∈ acc, -1000000 ≤ x ∧ x ≤ 1000000) →
    ∃ n, Ev (fun k => frisketlaw19_Stroke.l0 k l s acc ((2 * j + 1 : Nat) : Int)) (126, n) ∧ validF 126 n = true
  | d, j, acc, hj, h1, hl, hb => by
    have hval : validF 126 acc = true := by
      unfold validF
      rw [no_far hb]
      simp
      omega
    have hstop : Ev (fun k => frisketlaw19_Stroke.j2 k l s acc ((2 * j + 1 : Nat) : Int) false) (126, acc) := Ev.done fun k => by rw [frisketlaw19_Stroke.j2, if_neg Bool.false_ne_true]
    have e1 : wrap64 (((2 * j + 1 : Nat) : Int) + 1) = ((2 * j + 2 : Nat) : Int) := by rw [w64 (by omega) (by omega)]; omega
    by_cases c1 : 2 * j + 2 < l.length
    · cases d with
      | zero =>
        refine ⟨acc, Ev.goes hstop (fun k => ?_), hval⟩
        rw [frisketlaw19_Stroke.l0, e1, if_pos (by omega), decide_eq_false (by omega)]
      | succ d =>
        obtain ⟨x, hx, hx1, hx2⟩ := nth_f l ((2 * j + 1 : Nat) : Int) s (by omega) hs
        obtain ⟨y, hy, hy1, hy2⟩ := nth_f l ((2 * j + 2 : Nat) : Int) s (by omega) hs
        obtain ⟨n, h2, h3⟩ := stroke_l l hn s hs d (j + 1) (acc ++ [x, y]) (by omega) (by omega) (by simp; omega) (by
          intro z hz
          rcases List.mem_append.1 hz with h | h
          · exact hb z h
          · simp at h
            rcases h with rfl | rfl <;> omega)
        refine ⟨n, ?_, h3⟩
        have hj2 : Ev (fun k => frisketlaw19_Stroke.j2 k l s acc ((2 * j + 1 : Nat) : Int) true) (126, n) := Ev.goes h2 fun k => by
          rw [frisketlaw19_Stroke.j2, if_pos rfl, hx, Option.bind_some, e1, hy, Option.bind_some, Option.bind_some, if_pos (by simp; omega), w64 (x := ((2 * j + 1 : Nat) : Int) + 2) (by omega) (by omega)]
          rfl
        refine Ev.goes hj2 (fun k => ?_)
        rw [frisketlaw19_Stroke.l0, e1, if_pos (by omega), decide_eq_true (by omega)]
    · refine ⟨acc, Ev.goes hstop (fun k => ?_), hval⟩
      rw [frisketlaw19_Stroke.l0, e1, if_neg (by omega)]
theorem mx_abs (a s : Int) (h : -s ≤ a ∧ a ≤ s) (hs : s ≤ 1000000) : 0 ≤ mx a (wrap64 (-a)) ∧ mx a (wrap64 (-a)) ≤ 1000000 := by
  rw [w64 (by omega) (by omega)]
  unfold mx
  split <;> omega
theorem stroke_j (l : List Int) (hn : l.length ≤ 9223372036854775807) (s : Int) (hs : 1 ≤ s ∧ s ≤ 1000000) : ∃ (c : UInt8) (n : List Int), Ev (fun k => frisketlaw19_Stroke.j0 k l s) ((c.toNat : Int), n) ∧ validF (c.toNat : Int) n = true := by
  obtain ⟨t, ht, _, _⟩ := nth_f l 0 10 (by omega) (by omega)
  obtain ⟨a, ha, ha1⟩ := nth_f l 1 s (by omega) hs
  obtain ⟨b, hb, hb1⟩ := nth_f l 2 s (by omega) hs
  obtain ⟨e, he, he1⟩ := nth_f l 3 s (by omega) hs
  obtain ⟨f, hf, hf1⟩ := nth_f l 4 s (by omega) hs
  have ma := mx_abs a s ha1 hs.2
  have mb := mx_abs b s hb1 hs.2
  by_cases c0 : Int.tmod (IntKind.u64.wrap (wrap64 (t + 10))) 5 = 0
  · refine ⟨108, [a, b], Ev.done (fun k => ?_), ?_⟩
    · rw [frisketlaw19_Stroke.j0, ht, Option.bind_some, if_pos c0, ha, Option.bind_some, hb, Option.bind_some]; rfl
    · unfold validF
      rw [no_far (by intro x hx; simp at hx; rcases hx with rfl | rfl <;> omega)]
      rfl
  · by_cases c1 : Int.tmod (IntKind.u64.wrap (wrap64 (t + 10))) 5 = 1
    · refine ⟨99, [mx a (wrap64 (-a))], Ev.done (fun k => ?_), ?_⟩
      · rw [frisketlaw19_Stroke.j0, ht, Option.bind_some, if_neg c0, if_pos c1, ha, Option.bind_some, Option.bind_some]; rfl
      · unfold validF
        rw [no_far (by intro x hx; simp at hx; subst hx; omega)]
        simp [lowB]
        omega
    · by_cases c2 : Int.tmod (IntKind.u64.wrap (wrap64 (t + 10))) 5 = 2
      · refine ⟨101, [mx a (wrap64 (-a)), mx b (wrap64 (-b))], Ev.done (fun k => ?_), ?_⟩
        · rw [frisketlaw19_Stroke.j0, ht, Option.bind_some, if_neg c0, if_neg c1, if_pos c2, ha, Option.bind_some, Option.bind_some, hb, Option.bind_some, Option.bind_some]; rfl
        · unfold validF
          rw [no_far (by intro x hx; simp at hx; rcases hx with rfl | rfl <;> omega)]
          simp [lowB]
          omega
      · by_cases c3 : Int.tmod (IntKind.u64.wrap (wrap64 (t + 10))) 5 = 3
        · refine ⟨97, [a, b, e, f], Ev.done (fun k => ?_), ?_⟩
          · rw [frisketlaw19_Stroke.j0, ht, Option.bind_some, if_neg c0, if_neg c1, if_neg c2, if_pos c3, ha, Option.bind_some, hb, Option.bind_some, he, Option.bind_some, hf, Option.bind_some]; rfl
          · unfold validF
            rw [no_far (by intro x hx; simp at hx; rcases hx with rfl | rfl | rfl | rfl <;> omega)]
            rfl
        · obtain ⟨n, h2, h3⟩ := stroke_l l hn s hs 19 1 [a, b] (by omega) (by omega) rfl (by intro x hx; simp at hx; rcases hx with rfl | rfl <;> omega)
          refine ⟨126, n, Ev.goes h2 (fun k => ?_), h3⟩
          rw [frisketlaw19_Stroke.j0, ht, Option.bind_some, if_neg c0, if_neg c1, if_neg c2, if_neg c3, ha, Option.bind_some, hb, Option.bind_some]
          rfl
theorem stroke_f (l : List Int) (hn : l.length ≤ 9223372036854775807) : ∃ (c : UInt8) (n : List Int), Ev (fun k => frisketlaw19_Stroke.f k l) ((c.toNat : Int), n) ∧ validF (c.toNat : Int) n = true := by
  obtain ⟨t, ht, _, _⟩ := nth_f l 0 10 (by omega) (by omega)
  by_cases c : t = 10
  · obtain ⟨x, n, h1, h2⟩ := stroke_j l hn 1000000 (by omega)
    refine ⟨x, n, Ev.congr (fun k => ?_) h1, h2⟩
    rw [frisketlaw19_Stroke.f, ht, Option.bind_some, if_pos c]
  · obtain ⟨x, n, h1, h2⟩ := stroke_j l hn 300 (by omega)
    refine ⟨x, n, Ev.congr (fun k => ?_) h1, h2⟩
    rw [frisketlaw19_Stroke.f, ht, Option.bind_some, if_neg c]
theorem CurveParses (s : ByteArray) (l : List Int) (hl : l.length ≤ 9223372036854775807) : ∃ k, frisketlaw19_CurveParses.f k s l = some true := by
  by_cases h1 : (s.size : Int) > 1000
  · exact ⟨0, by rw [frisketlaw19_CurveParses.f, if_pos h1]; rfl⟩
  · obtain ⟨ls, rfl⟩ := B_ex s
    have hsz : ls.length ≤ 1000 := by rw [size_B] at h1; omega
    obtain ⟨⟨c1, n1, e1⟩, hp, hr, hn1⟩ := parse_both ls (by omega)
    simp only at hn1
    obtain ⟨c, n, hst, hv⟩ := stroke_f l hl
    obtain ⟨g1, g2⟩ := parse_back c n hv
    have hvt := valid_true hv
    have hw : curve_Write.f (c.toNat : Int) n = some (wrF c n) := by
      unfold curve_Write.f
      have := c.toNat_lt
      rw [if_pos ⟨by omega, by omega, by omega⟩, Int.toNat_natCast]
      simp
    have hj : Ev (fun k => frisketlaw19_CurveParses.j0 k l false) true := by
      refine Ev.bindStep (F := ?_) hst (fun k => ?_) ?_
      rotate_left 1
      · rw [frisketlaw19_CurveParses.j0, if_neg Bool.false_ne_true]
      refine Ev.bindNow (F := ?_) (numbers_same n (by omega)) (fun k => ?_) ?_
      rotate_left 1
      · simp only
        rw [hw, Option.bind_some, g1, Option.bind_some, if_pos g2]
        simp only
        rw [if_pos trivial, if_pos trivial]
      exact Ev.now true
    have key : Ev (fun k => frisketlaw19_CurveParses.f k (B ls) l) true := by
      refine Ev.bindNow (F := ?_) hr (fun k => ?_) ?_
      rotate_left 1
      · rw [frisketlaw19_CurveParses.f, if_neg h1, hp, Option.bind_some]
      refine Ev.bindNow (F := ?_) (numbers_same n1 (by omega)) (fun k => ?_) ?_
      rotate_left 1
      · simp only
        rw [if_pos trivial, if_pos trivial]
      exact hj
    exact Ev.rounds key
end Go.Proofs.YteiffkhkannfdaaDoor.Pure
