/- Layer 9 (hyphen), the plain law of HyphenEdges. -/
import Derived.Test.YtmjglgbkigjfkaaDoorYQ4
import Derived.Test.YtmjglgbkigjfkaaDoorYQ5
import Derived.Test.YtmjglgbkigjfkaaDoorYa0
import Derived.Test.YtmjglgbkigjfkaaDoorYa1
import Derived.Test.YtmjglgbkigjfkaaDoorYa2
import Derived.Test.YtmjglgbkigjfkaaDoorYa9
import Derived.Test.YtmjglgbkigjfkaaDoorYa10
import Derived.Test.YtmjglgbkigjfkaaDoorYa11
set_option linter.unusedVariables false
set_option linter.unusedSimpArgs false
namespace Go.Proofs.YtmjglgbkigjfkaaDoor.Pure
open Go.RowKit Go.Proofs.YtmjglgbkigjfkaaDoor Go.Proofs.YtmjglgbkigjfkaaDoor.Xa Go.Proofs.YtmjglgbkigjfkaaDoorW.PrintWords Go.Proofs.YtmjglgbkigjfkaaDoorW.PrintLast Go.Proofs.YtmjglgbkigjfkaaDoorW.PrintMore
/-- All points of a word, ahead of the edges. -/
def allPts (w : List UInt8) (ps : List (List UInt8)) : List Nat := odds (valS (lowS w) ((patsOf ps).getD [])) w.length
theorem good_chk {ps : List (List UInt8)} (h1 : ps.length ≤ 40) (h2 : ∀ p ∈ ps, GoodP p) : chk ps [] = 0 := by
  unfold chk
  rw [if_neg (by simp; omega), if_pos (good_pats h2)]
  rfl
theorem good_points (w : List UInt8) (hw : wordS w = true) {ps : List (List UInt8)} (h1 : ps.length ≤ 40) (h2 : ∀ p ∈ ps, GoodP p) (a b : Int) (ha : 1 ≤ a ∧ a ≤ 10) (hb : 1 ≤ b ∧ b ≤ 10) :
    pointsR w ps [] a b = (ints ((allPts w ps).filter (far a.toNat b.toNat w.length)), 0) := by
  unfold pointsR
  rw [if_pos (good_chk h1 h2), if_pos ⟨hw, ha, hb⟩]
  rfl
theorem allPts_lt (w : List UInt8) (ps : List (List UInt8)) : ∀ i ∈ allPts w ps, 1 ≤ i ∧ i < w.length := by
  intro i hi
  unfold allPts odds at hi
  have := List.mem_range'_1.1 (List.mem_filter.1 hi).1
  omega
theorem tmod10 (x : Int) : ∃ n : Nat, wrap64 (1 + wrap64 (Int.tmod (IntKind.u64.wrap x) 10)) = (n : Int) ∧ 1 ≤ n ∧ n ≤ 10 := by
  obtain ⟨q, hq, hl⟩ := tmod_nat (IntKind.u64.wrap x) 10 (by decide) (u64_nonneg x)
  rw [show ((10 : Nat) : Int) = 10 from rfl] at hq
  refine ⟨1 + q, ?_, by omega, by omega⟩
  rw [hq, w64 (x := (q : Int)) (by omega) (by omega), w64 (by omega) (by omega)]
  omega
theorem flt1 {P : Nat → Bool} {a : Nat} (h : P a = true) : [a].filter P = [a] := by rw [List.filter_cons, if_pos h]; rfl
theorem flt0 {P : Nat → Bool} {a : Nat} (h : P a = false) : [a].filter P = [] := by rw [List.filter_cons, h, if_neg Bool.false_ne_true]; rfl
theorem edge_l (w : List UInt8) (hw : w.length ≤ 60) (x y : Nat) (all : List Nat) (hall : all.length ≤ 1048576) (hlt : ∀ i ∈ all, i < w.length) : ∀ (d i : Nat), i + d = all.length →
    Ev (fun k => frisketlaw09_HyphenEdges.l0 k (B w) (x : Int) (y : Int) (ints all) (ints (all.filter (far x y w.length))) (ints ((all.take i).filter (far x y w.length))) (i : Int)) true
  | 0, i, hi => by
    have e : all.take i = all := List.take_of_length_le (by omega)
    have hn : (ints (all.filter (far x y w.length))).length ≤ 17592186044416 := by
      have := List.length_filter_le (far x y w.length) all
      rw [ints, List.length_map]
      omega
    rw [e]
    refine Ev.step (fun k => ?_) (Ev.bind (f := fun k (t208 : Bool) => if t208 = true then ((frisketlaw09_sane.f k).bind fun t209 => (some t209)) else (some false)) (numbers_same _ hn) (Ev.congr (fun k => if_pos rfl) (Ev.bind (f := fun _ (t : Bool) => some t) sane_ev (Ev.now true))))
    rw [frisketlaw09_HyphenEdges.l0, if_neg (by rw [ints, List.length_map]; omega)]
  | d + 1, i, hi => by
    have h1 : i < all.length := by omega
    have hil := hlt _ (List.getElem_mem h1)
    have ih := edge_l w hw x y all hall hlt d (i + 1) (by omega)
    rw [List.take_succ_eq_append_getElem h1, List.filter_append] at ih
    have hr : rd (ints all) (i : Int) = ((all[i] : Nat) : Int) := by
      rw [rd_at (ints all) i (by rw [ints, List.length_map]; exact h1)]
      simp [ints]
    have hlen : (ints ((all.take i).filter (far x y w.length))).length < 17592186044416 := by
      have := List.length_filter_le (far x y w.length) (all.take i)
      rw [List.length_take] at this
      rw [ints, List.length_map]
      omega
    have hsub : wrap64 ((w.length : Int) - ((all[i] : Nat) : Int)) = (w.length : Int) - ((all[i] : Nat) : Int) := w64 (by omega) (by omega)
    have hcond : (i : Int) < ((ints all).length : Int) := by rw [ints, List.length_map]; omega
    by_cases hx : x ≤ all[i]
    · by_cases hy : y ≤ w.length - all[i]
      · have hf : far x y w.length all[i] = true := by
          unfold far
          simp
          omega
        rw [flt1 hf, ints_append] at ih
        refine Ev.step (fun k => ?_) ih
        rw [frisketlaw09_HyphenEdges.l0, if_pos hcond, if_pos (by omega), hr, if_pos (by omega), size_B, hsub, if_pos (by omega), if_pos hlen, w64s h1 (by omega)]
        rfl
      · have hf : far x y w.length all[i] = false := by
          unfold far
          simp
          omega
        rw [flt0 hf, List.append_nil] at ih
        refine Ev.step (fun k => ?_) ih
        rw [frisketlaw09_HyphenEdges.l0, if_pos hcond, if_pos (by omega), hr, if_pos (by omega), size_B, hsub, if_neg (by omega), w64s h1 (by omega)]
    · have hf : far x y w.length all[i] = false := by
        unfold far
        simp
        omega
      rw [flt0 hf, List.append_nil] at ih
      refine Ev.step (fun k => ?_) ih
      rw [frisketlaw09_HyphenEdges.l0, if_pos hcond, if_pos (by omega), hr, if_neg (by omega), w64s h1 (by omega)]
theorem far_one (w : List UInt8) (ps : List (List UInt8)) : (allPts w ps).filter (far 1 1 w.length) = allPts w ps := by
  rw [List.filter_eq_self]
  intro i hi
  have := allPts_lt w ps i hi
  unfold far
  simp
  omega
theorem allPts_length (w : List UInt8) (ps : List (List UInt8)) : (allPts w ps).length ≤ w.length := by
  unfold allPts odds
  refine Nat.le_trans (List.length_filter_le _ _) ?_
  rw [List.length_range']
  omega
theorem HyphenEdges_ev (l m : List Int) (a b : Int) : ∃ k, frisketlaw09_HyphenEdges.f k l m a b = some true := by
  have hw := wordL_length l
  obtain ⟨ps, hev, h1, h2⟩ := pats_ev m
  obtain ⟨x, hx, hx1, hx2⟩ := tmod10 a
  obtain ⟨y, hy, hy1, hy2⟩ := tmod10 b
  have hs := good_short h1 h2
  have hp1 := Points_f (wordL l) (by omega) ps [] hs short_nil 1 1
  have hp2 := Points_f (wordL l) (by omega) ps [] hs short_nil (x : Int) (y : Int)
  rw [good_points (wordL l) (wordL_word l) h1 h2 1 1 (by omega) (by omega), show (1 : Int).toNat = 1 from rfl, far_one] at hp1
  rw [good_points (wordL l) (wordL_word l) h1 h2 (x : Int) (y : Int) (by omega) (by omega), Int.toNat_natCast, Int.toNat_natCast] at hp2
  have hh : Ev (fun k => frisketlaw09_HyphenEdges.f k l m a b) true := by
    refine Ev.congr (f := fun k => (frisketlaw09_Word.f k l).bind fun t190 => ((frisketlaw09_patterns.f k m).bind fun t191 => ((hyphen_Points.f k t190 t191 ([] : List ByteArray) 1 1).bind fun bt194 => ((hyphen_Points.f k t190 t191 ([] : List ByteArray) (x : Int) (y : Int)).bind fun bt198 => (if bt194.2 = 0 then (frisketlaw09_HyphenEdges.j0 k t190 (x : Int) (y : Int) bt194.1 bt198.1 (bt198.2 != 0)) else (frisketlaw09_HyphenEdges.j0 k t190 (x : Int) (y : Int) bt194.1 bt198.1 true)))))) (fun k => ?_) ?_
    · rw [frisketlaw09_HyphenEdges.f, hx, hy]
    · refine Ev.bind (word_ev l) (Ev.bind hev (Ev.bind hp1 (Ev.bind hp2 (Ev.congr (fun k => if_pos rfl) ?_))))
      refine Ev.step (f := fun k => frisketlaw09_HyphenEdges.l0 k (B (wordL l)) (x : Int) (y : Int) (ints (allPts (wordL l) ps)) (ints ((allPts (wordL l) ps).filter (far x y (wordL l).length))) ([] : List Int) 0) (fun k => ?_) ?_
      · rw [frisketlaw09_HyphenEdges.j0, if_neg (show ¬ ((0 : Int) != 0) = true by decide)]
      · exact edge_l (wordL l) hw.2 x y (allPts (wordL l) ps) (by have := allPts_length (wordL l) ps; omega) (fun i hi => (allPts_lt (wordL l) ps i hi).2) (allPts (wordL l) ps).length 0 (by omega)
  exact hh.rounds
end Go.Proofs.YtmjglgbkigjfkaaDoor.Pure
