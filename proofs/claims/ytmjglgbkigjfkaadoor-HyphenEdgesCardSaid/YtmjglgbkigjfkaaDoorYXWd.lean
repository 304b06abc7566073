/- Layer 9 (hyphen), the plain law: the word that numbers make. -/
import Derived.Test.YtmjglgbkigjfkaaDoorYQ1
import Derived.Test.YtmjglgbkigjfkaaDoorYa0
import Derived.Test.YtmjglgbkigjfkaaDoorYa1
set_option linter.unusedVariables false
set_option linter.unusedSimpArgs false
namespace Go.Proofs.YtmjglgbkigjfkaaDoor.Pure
open Go.RowKit Go.Proofs.YtmjglgbkigjfkaaDoor Go.Proofs.YtmjglgbkigjfkaaDoor.Xa Go.Proofs.YtmjglgbkigjfkaaDoorW.PrintWords Go.Proofs.YtmjglgbkigjfkaaDoorW.PrintLast Go.Proofs.YtmjglgbkigjfkaaDoorW.PrintMore
def lettersOf : List UInt8 := [97, 98, 100, 101, 105, 108, 110, 111, 114, 115, 116, 117, 84, 69, 78]
def letterNo (x : Int) : Nat := (Int.tmod (IntKind.u64.wrap x) 15).toNat
def wordOf (l : List Int) : List UInt8 := (l.take 60).map fun x => lettersOf.getD (letterNo x) 0
def wordL (l : List Int) : List UInt8 := if wordOf l = [] then [97] else wordOf l
theorem u64_nonneg (x : Int) : 0 ≤ IntKind.u64.wrap x := by
  unfold IntKind.wrap
  simp [IntKind.bits, IntKind.signed]
  omega
theorem letterNo_lt (x : Int) : letterNo x < 15 := by
  have h : 0 ≤ IntKind.u64.wrap x := u64_nonneg x
  have h2 := Int.tmod_lt_of_pos (IntKind.u64.wrap x) (b := 15) (by decide)
  unfold letterNo
  omega
theorem tmod15 (x : Int) : wrap64 (Int.tmod (IntKind.u64.wrap x) 15) = (letterNo x : Int) := by
  have h : 0 ≤ IntKind.u64.wrap x := u64_nonneg x
  have h1 : 0 ≤ Int.tmod (IntKind.u64.wrap x) 15 := Int.tmod_nonneg _ h
  have h2 := Int.tmod_lt_of_pos (IntKind.u64.wrap x) (b := 15) (by decide)
  rw [w64 (by omega) (by omega)]
  unfold letterNo
  omega
theorem lettersB : (⟨#[97, 98, 100, 101, 105, 108, 110, 111, 114, 115, 116, 117, 84, 69, 78]⟩ : ByteArray) = B lettersOf := rfl
theorem letters_good (n : Nat) (h : n < 15) : (smallB (lettersOf.getD n 0) || greatB (lettersOf.getD n 0)) = true := by
  have : ∀ n : Fin 15, (smallB (lettersOf.getD n.val 0) || greatB (lettersOf.getD n.val 0)) = true := by decide +kernel
  exact this ⟨n, h⟩
theorem rd_at (l : List Int) (i : Nat) (h : i < l.length) : rd l (i : Int) = l[i] := by
  unfold rd
  rw [Int.toNat_natCast, List.getD_eq_getElem?_getD, List.getElem?_eq_getElem h]
  rfl
theorem wordOf_length (l : List Int) : (wordOf l).length = min 60 l.length := by rw [wordOf, List.length_map, List.length_take]
theorem word_end (k : Nat) (w : List UInt8) : (if (B w).toList = ([] : List UInt8) then (some (⟨#[97]⟩ : ByteArray)) else (some (B w))) = some (B (if w = [] then [97] else w)) := by
  rw [toList_B]
  by_cases h : w = []
  · rw [if_pos h, if_pos h]
    rfl
  · rw [if_neg h, if_neg h]
theorem word_l0 (l : List Int) : ∀ (d i : Nat), i + d = min 60 l.length →
    Ev (fun k => frisketlaw09_Word.l0 k l (B ((wordOf l).take i)) (i : Int)) (B (wordL l))
  | 0, i, hi => by
    have e : (wordOf l).take i = wordOf l := by rw [List.take_of_length_le]; rw [wordOf_length]; omega
    refine Ev.step (f := fun _ => some (B (wordL l))) (fun k => ?_) (Ev.now _)
    rw [frisketlaw09_Word.l0, e]
    by_cases h : i < l.length
    · rw [if_pos (by omega), if_neg (by omega), word_end k]
      rfl
    · rw [if_neg (by omega), word_end k]
      rfl
  | d + 1, i, hi => by
    have h1 : i < l.length := by omega
    have h2 : i < 60 := by omega
    have hm := letterNo_lt l[i]
    have hw : i < (wordOf l).length := by rw [wordOf_length]; omega
    have e : B ((wordOf l).take i) ++ B [lettersOf.getD (letterNo l[i]) 0] = B ((wordOf l).take (i + 1)) := by
      rw [append_B, ← List.take_append_getElem hw]
      congr 1
      simp [wordOf]
    have ex : (B lettersOf).extract ((letterNo l[i] : Int)).toNat (((letterNo l[i] + 1 : Nat) : Int)).toNat = B [lettersOf.getD (letterNo l[i]) 0] := by
      rw [take1 lettersOf (letterNo l[i]) hm, List.getD_eq_getElem?_getD, List.getElem?_eq_getElem (l := lettersOf) hm]
      rfl
    refine Ev.step (fun k => ?_) (word_l0 l d (i + 1) (by omega))
    rw [frisketlaw09_Word.l0, if_pos (by omega), if_pos (by omega), if_pos (by omega), rd_at l i h1, tmod15, if_pos (by omega), w64s (n := 15) hm (by omega), if_pos (by omega), if_pos (by omega), lettersB, ex, if_pos (by
      rw [size_B, size_B, List.length_take, List.length_singleton]
      omega), e, w64s h2 (by omega)]
theorem word_ev (l : List Int) : Ev (fun k => frisketlaw09_Word.f k l) (B (wordL l)) := by
  refine Ev.congr (fun k => ?_) (word_l0 l (min 60 l.length) 0 (by omega))
  rfl
theorem wordL_length (l : List Int) : 1 ≤ (wordL l).length ∧ (wordL l).length ≤ 60 := by
  unfold wordL
  have := wordOf_length l
  split
  · simp
  · rename_i h
    have : (wordOf l).length ≠ 0 := fun e => h (List.eq_nil_of_length_eq_zero e)
    omega
theorem wordL_good (l : List Int) : ∀ c ∈ wordL l, (smallB c || greatB c) = true := by
  intro c hc
  unfold wordL at hc
  split at hc
  · rw [List.mem_singleton] at hc
    subst hc
    decide
  · obtain ⟨x, _, rfl⟩ := List.mem_map.1 hc
    exact letters_good _ (letterNo_lt x)
theorem wordL_word (l : List Int) : wordS (wordL l) = true := by
  unfold wordS
  have h := wordL_length l
  rw [Bool.and_eq_true, List.all_eq_true, decide_eq_true_eq]
  exact ⟨fun c hc => wordL_good l c hc, h⟩
end Go.Proofs.YtmjglgbkigjfkaaDoor.Pure
