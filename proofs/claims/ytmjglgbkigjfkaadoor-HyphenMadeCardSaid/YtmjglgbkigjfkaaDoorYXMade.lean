/- Layer 9 (hyphen), the plain law of HyphenMade. -/
import Derived.Test.YtmjglgbkigjfkaaDoorYQ4
import Derived.Test.YtmjglgbkigjfkaaDoorYQ5
import Derived.Test.YtmjglgbkigjfkaaDoorYa0
import Derived.Test.YtmjglgbkigjfkaaDoorYa2
import Derived.Test.YtmjglgbkigjfkaaDoorYa10
import Derived.Test.YtmjglgbkigjfkaaDoorYa22
import Derived.Test.YtmjglgbkigjfkaaDoorYa23
set_option linter.unusedVariables false
set_option linter.unusedSimpArgs false
namespace Go.Proofs.YtmjglgbkigjfkaaDoor.Pure
open Go.RowKit Go.Proofs.YtmjglgbkigjfkaaDoor Go.Proofs.YtmjglgbkigjfkaaDoor.Xa Go.Proofs.YtmjglgbkigjfkaaDoorW.PrintWords Go.Proofs.YtmjglgbkigjfkaaDoorW.PrintLast Go.Proofs.YtmjglgbkigjfkaaDoorW.PrintMore
theorem dashMB : (⟨#[45]⟩ : ByteArray) = B [45] := rfl
theorem made_end (m : List Int) (at_ : List Int) (b h : Int) (w lo : List UInt8) (hw : w.length ≤ 60) (xs : List (List UInt8)) (hx : Short xs) (i : Nat) :
    Ev (fun k => frisketlaw09_HyphenMade.j2 k m at_ b h (B w) (B lo) (xs.map B) (i : Int) false) true := by
  obtain ⟨ps, hev, h1, h2⟩ := pats_ev m
  refine Ev.step (f := fun k => (frisketlaw09_patterns.f k m).bind fun t342 => ((frisketlaw09_same.f k (B w) t342 (xs.map B) (wrap64 (1 + (wrap64 (Int.tmod (IntKind.u64.wrap (b)) 4)))) (wrap64 (1 + (wrap64 (Int.tmod (IntKind.u64.wrap (h)) 4))))).bind fun t345 => (if t345 = true then ((frisketlaw09_sane.f k).bind fun t346 => (some t346)) else (some false)))) (fun k => ?_) ?_
  · rw [frisketlaw09_HyphenMade.j2, if_neg Bool.false_ne_true]
  · refine Ev.bind hev (Ev.bind (same_ev w (by omega) ps xs (good_short h1 h2) hx _ _) (Ev.congr (fun k => if_pos rfl) (Ev.bind (f := fun _ (t : Bool) => some t) sane_ev (Ev.now true))))
theorem made_l1 (m : List Int) (at_ : List Int) (b h : Int) (w lo : List UInt8) (hw : w.length ≤ 60) (hw1 : 1 ≤ w.length) (hlo : lo.length = w.length) : ∀ (d i : Nat), i + d = min 4 at_.length → ∀ xs : List (List UInt8), xs.length = i → (∀ x ∈ xs, x.length ≤ 61) →
    Ev (fun k => frisketlaw09_HyphenMade.l1 k m at_ b h (B w) (B lo) (xs.map B) (i : Int)) true
  | 0, i, hi, xs, hxl, hx => by
    refine Ev.step (fun k => ?_) (made_end m at_ b h w lo hw xs ⟨by omega, fun x hm => by have := hx x hm; omega⟩ i)
    by_cases h4 : i < at_.length
    · rw [frisketlaw09_HyphenMade.l1, if_pos (by omega), decide_eq_false (by omega)]
    · rw [frisketlaw09_HyphenMade.l1, if_neg (by omega)]
  | d + 1, i, hi, xs, hxl, hx => by
    have h1 : i < at_.length := by omega
    have h4 : i < 4 := by omega
    have hlt : (xs.map B).length < 8796093022208 := by rw [List.length_map]; omega
    have hu : IntKind.u64.wrap ((B w).size : Int) = (w.length : Int) := by rw [size_B]; exact u64_small w.length (by omega)
    obtain ⟨q, hq, hql⟩ := tmod_nat (IntKind.u64.wrap at_[i]) w.length hw1 (u64_nonneg _)
    have hwq : wrap64 (q : Int) = (q : Int) := w64 (by omega) (by omega)
    have hm : ∀ a : List UInt8, xs.map B ++ [B a] = (xs ++ [a]).map B := fun a => by simp
    have hxs : ∀ a : List UInt8, a.length ≤ 61 → ∀ x ∈ xs ++ [a], x.length ≤ 61 := fun a ha x hxm => by
      rcases List.mem_append.1 hxm with hxm | hxm
      · exact hx x hxm
      · rw [List.mem_singleton] at hxm
        subst hxm
        exact ha
    by_cases h0 : 0 < q
    · have e0 : (B lo).extract 0 ((q : Int)).toNat = B (lo.take q) := by
        rw [Int.toNat_natCast, extract_B]
        rfl
      have e1 : (B lo).extract ((q : Int)).toNat (B lo).size = B (lo.drop q) := by
        rw [Int.toNat_natCast, extract_B, List.take_of_length_le]
        rw [size_B, List.length_drop]
        clear hu hq hwq
        omega
      have hl0 : (lo.take q).length = q := by rw [List.length_take]; clear hu hq hwq; omega
      have ih := made_l1 m at_ b h w lo hw hw1 hlo d (i + 1) (by clear hu hq hwq; omega) (xs ++ [lo.take q ++ [45] ++ lo.drop q]) (by rw [List.length_append, List.length_singleton]; clear hu hq hwq; omega) (hxs _ (by rw [List.length_append, List.length_append, hl0, List.length_singleton, List.length_drop]; clear hu hq hwq; omega))
      refine Ev.step (fun k => ?_) (Ev.step (g := fun k => frisketlaw09_HyphenMade.j2 k m at_ b h (B w) (B lo) (xs.map B) (i : Int) true) (fun k => ?_) ih)
      · rw [frisketlaw09_HyphenMade.l1, if_pos (by clear hu hq hwq; omega), decide_eq_true (by clear hu hq hwq; omega)]
      · rw [frisketlaw09_HyphenMade.j2, if_pos rfl, if_pos (by clear hu hq hwq; omega), if_pos (by clear hu hq hwq; omega), hu, if_neg (by clear hu hq hwq; omega), rd_at at_ i h1, hq, hwq, if_pos (by clear hu hq hwq; omega), if_pos (by clear hu hq hwq; omega), if_pos (by rw [size_B]; clear hu hq hwq; omega), e0, e1, if_pos (by rw [size_B, hl0]; clear hu hq hwq; omega), dashMB, append_B,
          if_pos (by rw [size_B, size_B, List.length_append, hl0, List.length_singleton, List.length_drop]; clear hu hq hwq; omega), if_pos hlt, append_B, hm, w64s h4 (by clear hu hq hwq; omega)]
    · have ih := made_l1 m at_ b h w lo hw hw1 hlo d (i + 1) (by clear hu hq hwq; omega) (xs ++ [lo]) (by rw [List.length_append, List.length_singleton]; clear hu hq hwq; omega) (hxs _ (by clear hu hq hwq; omega))
      refine Ev.step (fun k => ?_) (Ev.step (g := fun k => frisketlaw09_HyphenMade.j2 k m at_ b h (B w) (B lo) (xs.map B) (i : Int) true) (fun k => ?_) ih)
      · rw [frisketlaw09_HyphenMade.l1, if_pos (by clear hu hq hwq; omega), decide_eq_true (by clear hu hq hwq; omega)]
      · rw [frisketlaw09_HyphenMade.j2, if_pos rfl, if_pos (by clear hu hq hwq; omega), if_pos (by clear hu hq hwq; omega), hu, if_neg (by clear hu hq hwq; omega), rd_at at_ i h1, hq, hwq, if_neg (by clear hu hq hwq; omega), if_pos hlt, hm, w64s h4 (by clear hu hq hwq; omega)]
theorem made_l0 (m : List Int) (at_ : List Int) (b h : Int) (w : List UInt8) (hw : w.length ≤ 60) (hw1 : 1 ≤ w.length) (hg : ∀ c ∈ w, (smallB c || greatB c) = true) : ∀ (d i : Nat), i + d = w.length →
    Ev (fun k => frisketlaw09_HyphenMade.l0 k m at_ b h (B w) (B (lowS (w.take i))) (i : Int)) true
  | 0, i, hi => by
    have e : w.take i = w := List.take_of_length_le (by omega)
    refine Ev.step (fun k => ?_) (made_l1 m at_ b h w (lowS w) hw hw1 (lowS_length w) (min 4 at_.length) 0 (by omega) [] rfl (fun x hx => by cases hx))
    rw [frisketlaw09_HyphenMade.l0, if_neg (by rw [size_B]; omega), e]
    rfl
  | d + 1, i, hi => by
    have hlt : i < w.length := by omega
    have ih := made_l0 m at_ b h w hw hw1 hg d (i + 1) (by omega)
    have h1 : ((i : Int) < ((B w).size : Int)) := by rw [size_B]; omega
    have e : lowS (w.take (i + 1)) = lowS (w.take i) ++ [lowB w[i]] := by
      unfold lowS; rw [List.take_succ_eq_append_getElem hlt, List.map_append]; rfl
    rw [e, ← append_B] at ih
    have hl : (lowS (w.take i)).length = i := by unfold lowS; simp [Nat.min_eq_left (Nat.le_of_lt hlt)]
    have hgi := hg _ (List.getElem_mem hlt)
    by_cases hgr : greatB w[i] = true
    · have hgr' := of_decide_eq_true hgr
      refine Ev.step (fun k => ?_) ih
      rw [frisketlaw09_HyphenMade.l0, if_pos h1, if_pos (by omega), bt_B w i hlt, if_pos (by omega), Option.bind_some, strOf1 _ hgr, if_pos (by rw [size_B, size_B, hl, List.length_singleton]; omega), w64s hlt (by omega)]
    · have hc : lowB w[i] = w[i] := by unfold lowB; rw [if_neg (by unfold greatB at hgr; simpa using hgr)]
      have hs : smallB w[i] = true := by
        rw [Bool.or_eq_true] at hgi
        exact hgi.resolve_right hgr
      have hs' := of_decide_eq_true hs
      rw [hc] at ih
      refine Ev.step (fun k => ?_) ih
      rw [frisketlaw09_HyphenMade.l0, if_pos h1, if_pos (by omega), bt_B w i hlt, if_neg (by omega), w64s hlt (by omega), if_pos (by omega), if_pos (by rw [size_B]; omega), take1 w i hlt, if_pos (by rw [size_B, size_B, hl, List.length_singleton]; omega)]
theorem HyphenMade_ev (l m a : List Int) (b h : Int) : ∃ k, frisketlaw09_HyphenMade.f k l m a b h = some true := by
  have hw := wordL_length l
  have hh : Ev (fun k => frisketlaw09_HyphenMade.f k l m a b h) true := by
    refine Ev.bind (f := fun k t331 => frisketlaw09_HyphenMade.l0 k m a b h t331 (⟨#[]⟩ : ByteArray) 0) (word_ev l) ?_
    exact made_l0 m a b h (wordL l) hw.2 hw.1 (wordL_good l) (wordL l).length 0 (by omega)
  exact hh.rounds
end Go.Proofs.YtmjglgbkigjfkaaDoor.Pure
