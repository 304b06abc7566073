/- The walk of curve.Valid by hand: slices.ContainsFunc at two function values, one of them behind a closure. -/
import Derived.Test.YteiffkhkannfdaaDoorYXG
import Derived.Test.YteiffkhkannfdaaDoorYXB
import Derived.Test.YteiffkhkannfdaaDoorYf0
import Derived.Test.YteiffkhkannfdaaDoorYf1
import Derived.Test.YteiffkhkannfdaaDoorYg0
import Derived.Test.YteiffkhkannfdaaDoorYg1
set_option linter.unusedVariables false
set_option linter.unusedSimpArgs false
namespace Go.Proofs.YteiffkhkannfdaaDoor
open Go.RowKit Go.Proofs.YteiffkhkannfdaaDoorW.PrintWords Go.Proofs.YteiffkhkannfdaaDoorW.PrintLast Go.Proofs.YteiffkhkannfdaaDoorW.PrintMore Go.Proofs.YteiffkhkannfdaaDoor.Pure
set_option linter.unusedVariables false
def farB (x : Int) : Bool := decide (x < -1000000) || decide (x > 1000000)
def lowB (x : Int) : Bool := decide (x < 0)
def validF (c : Int) (l : List Int) : Bool :=
  if l.any farB then false else if c = 108 then decide (l.length = 2) else if c = 99 then decide (l.length = 1) && !l.any lowB
  else if c = 101 then decide (l.length = 2) && !l.any lowB else if c = 97 then decide (l.length = 4)
  else decide (c = 126) && decide (2 ≤ l.length) && decide (l.length % 2 = 0) && decide (l.length ≤ 40)
def idxL (p : Int → Bool) : List Int → Option Nat
  | [] => none
  | x :: l => if p x then some 0 else (idxL p l).map (· + 1)
theorem rd_at (l : List Int) (i : Nat) (h : i < l.length) : rd l (i : Int) = l[i] := by
  unfold rd; rw [Int.toNat_natCast, List.getD_eq_getElem?_getD, List.getElem?_eq_getElem h]; rfl
theorem far_l (l : List Int) (hn : l.length ≤ 281474976710656) : ∀ (d i : Nat), i + d = l.length → ∃ r : Int, Ev (fun k => Xf.slices_IndexFunc_int_int.l0 k l (l.length : Int) (i : Int)) r ∧ decide (r ≥ 0) = (l.drop i).any farB
  | 0, i, hi => ⟨-1, Ev.done (fun k => by rw [Xf.slices_IndexFunc_int_int.l0, if_neg (by omega)]), by rw [List.drop_of_length_le (by omega)]; rfl⟩
  | d + 1, i, hi => by
    have hlt : i < l.length := by omega
    have hf : Xf.curve_Valid_1.f (rd l (i : Int)) = some (farB l[i]) := by
      rw [rd_at l i hlt]
      unfold Xf.curve_Valid_1.f farB
      by_cases h : l[i] < -1000000
      · rw [if_pos h, decide_eq_true h]; rfl
      · rw [if_neg h, decide_eq_false h]; rfl
    rw [List.drop_eq_getElem_cons hlt, List.any_cons]
    by_cases h : farB l[i] = true
    · refine ⟨i, Ev.done (fun k => ?_), ?_⟩
      · rw [Xf.slices_IndexFunc_int_int.l0, if_pos (by omega), if_pos (by omega), if_pos (by omega), hf, Option.bind_some, if_pos h]
      · rw [h, decide_eq_true (by omega)]; rfl
    · obtain ⟨r, h1, h2⟩ := far_l l hn d (i + 1) (by omega)
      refine ⟨r, Ev.goes h1 (fun k => ?_), ?_⟩
      · rw [Xf.slices_IndexFunc_int_int.l0, if_pos (by omega), if_pos (by omega), if_pos (by omega), hf, Option.bind_some, if_neg h, w64s hlt (by omega)]
      · rw [h2, Bool.eq_false_iff.2 h, Bool.false_or]
theorem low_l (l : List Int) (hn : l.length ≤ 281474976710656) : ∀ (d i : Nat), i + d = l.length → ∃ r : Int, Ev (fun k => Xg.slices_IndexFunc_int_int.l0 k l (l.length : Int) (i : Int)) r ∧ decide (r ≥ 0) = (l.drop i).any lowB
  | 0, i, hi => ⟨-1, Ev.done (fun k => by rw [Xg.slices_IndexFunc_int_int.l0, if_neg (by omega)]), by rw [List.drop_of_length_le (by omega)]; rfl⟩
  | d + 1, i, hi => by
    have hlt : i < l.length := by omega
    have hf : Xg.curve_Valid_2_1.f (rd l (i : Int)) = some (lowB l[i]) := by
      rw [rd_at l i hlt]
      rfl
    rw [List.drop_eq_getElem_cons hlt, List.any_cons]
    by_cases h : lowB l[i] = true
    · refine ⟨i, Ev.done (fun k => ?_), ?_⟩
      · rw [Xg.slices_IndexFunc_int_int.l0, if_pos (by omega), if_pos (by omega), if_pos (by omega), hf, Option.bind_some, if_pos h]
      · rw [h, decide_eq_true (by omega)]; rfl
    · obtain ⟨r, h1, h2⟩ := low_l l hn d (i + 1) (by omega)
      refine ⟨r, Ev.goes h1 (fun k => ?_), ?_⟩
      · rw [Xg.slices_IndexFunc_int_int.l0, if_pos (by omega), if_pos (by omega), if_pos (by omega), hf, Option.bind_some, if_neg h, w64s hlt (by omega)]
      · rw [h2, Bool.eq_false_iff.2 h, Bool.false_or]
theorem far_calls (A : Option Addr) (c : Nat) (l : List Int) (w : World) (hr : Kd.C (Kd.int .i64) w A l.length l) (hc : l.length ≤ c) (hn : l.length ≤ 281474976710656) :
    Calls Tryd.prog 26 #[.slice A l.length c, .func (.func 27) #[] #[]] w fun e w' => e = .returned (.bool (l.any farB)) ∧ ∃ q, w' = w.drewN q := by
  obtain ⟨r, h1, h2⟩ := far_l l hn l.length 0 (by omega)
  obtain ⟨k, hk⟩ := Ev.rounds h1
  refine (Xf.slices_ContainsFunc_int_int.calls k A c l (l.any farB) w hr hc ?_).mono fun e w' ⟨he, hq⟩ => ⟨he, hq.out⟩
  unfold Xf.slices_ContainsFunc_int_int.f
  show (Xf.slices_IndexFunc_int_int.l0 k l (l.length : Int) ((0 : Nat) : Int)).bind _ = _
  rw [hk, Option.bind_some, h2]
  rfl
theorem low_calls (A : Option Addr) (c : Nat) (l : List Int) (w : World) (hr : Kd.C (Kd.int .i64) w A l.length l) (hc : l.length ≤ c) (hn : l.length ≤ 281474976710656) :
    Calls Tryd.prog 26 #[.slice A l.length c, .func (.func 29) #[] #[]] w fun e w' => e = .returned (.bool (l.any lowB)) ∧ ∃ q, w' = w.drewN q := by
  obtain ⟨r, h1, h2⟩ := low_l l hn l.length 0 (by omega)
  obtain ⟨k, hk⟩ := Ev.rounds h1
  refine (Xg.slices_ContainsFunc_int_int.calls k A c l (l.any lowB) w hr hc ?_).mono fun e w' ⟨he, hq⟩ => ⟨he, hq.out⟩
  unfold Xg.slices_ContainsFunc_int_int.f
  show (Xg.slices_IndexFunc_int_int.l0 k l (l.length : Int) ((0 : Nat) : Int)).bind _ = _
  rw [hk, Option.bind_some, h2]
  rfl
end Go.Proofs.YteiffkhkannfdaaDoor
