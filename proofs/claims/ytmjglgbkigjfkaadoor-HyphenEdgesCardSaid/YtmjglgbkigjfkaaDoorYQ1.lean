/- Layer 9 (hyphen), the plain law, part 1: texts as lists of bytes; words, small letters, lists of numbers. -/
import Derived.Test.YtmjglgbkigjfkaaDoorYa0
import Derived.Test.YtmjglgbkigjfkaaDoorYa3
import Derived.Test.YtmjglgbkigjfkaaDoorYa5
import Derived.Test.YtmjglgbkigjfkaaDoorYa10
import Derived.Test.YtmjglgbkigjfkaaDoorYa12
import Derived.Test.YtmjglgbkigjfkaaDoorYa13
import Derived.Test.YtmjglgbkigjfkaaDoorYa14
import Derived.Test.YtmjglgbkigjfkaaDoorYa4
set_option linter.unusedVariables false
set_option linter.unusedSimpArgs false
namespace Go.Proofs.YtmjglgbkigjfkaaDoor.Pure
open Go.RowKit Go.Proofs.YtmjglgbkigjfkaaDoor Go.Proofs.YtmjglgbkigjfkaaDoor.Xa Go.Proofs.YtmjglgbkigjfkaaDoorW.PrintWords Go.Proofs.YtmjglgbkigjfkaaDoorW.PrintLast Go.Proofs.YtmjglgbkigjfkaaDoorW.PrintMore
/-- A text out of its bytes. -/
def B (l : List UInt8) : ByteArray := ⟨l.toArray⟩
theorem B_of (s : ByteArray) : s = B s.data.toList := by simp [B]
theorem B_ex (s : ByteArray) : ∃ l, s = B l := ⟨_, B_of s⟩
theorem size_B (l : List UInt8) : (B l).size = l.length := by simp [B, ByteArray.size]
theorem data_B (l : List UInt8) : (B l).data.toList = l := by simp [B]
theorem toList_B (l : List UInt8) : (B l).toList = l := by rw [Lib.toList_data, data_B]
theorem B_inj {l m : List UInt8} (h : B l = B m) : l = m := by rw [← data_B l, h, data_B]
theorem append_B (l m : List UInt8) : B l ++ B m = B (l ++ m) := by
  apply ByteArray.ext
  simp [B]
theorem bt_B (l : List UInt8) (i : Nat) (h : i < l.length) : bt (B l) (i : Int) = (l[i].toNat : Int) := by
  have h' : ((i : Int)).toNat < (B l).size := by rw [size_B]; simpa using h
  unfold bt
  rw [dif_pos h']
  simp [B]
  rfl
theorem extract_B (l : List UInt8) (a b : Nat) : (B l).extract a b = B ((l.drop a).take (b - a)) := by
  apply ByteArray.ext
  simp [B]
theorem lit0 : (⟨#[]⟩ : ByteArray) = B [] := rfl
theorem w64 {x : Int} (h0 : -9223372036854775808 ≤ x) (h1 : x ≤ 9223372036854775807) : wrap64 x = x := by unfold wrap64; omega
theorem w64s {i n : Nat} (h : i < n) (hn : n ≤ 281474976710656) : wrap64 ((i : Int) + 1) = ((i + 1 : Nat) : Int) := by rw [w64 (by omega) (by omega)]; omega
theorem take1 (l : List UInt8) (i : Nat) (h : i < l.length) : (B l).extract ((i : Int)).toNat (((i + 1 : Nat) : Int)).toNat = B [l[i]] := by
  rw [show ((i : Int)).toNat = i from Int.toNat_natCast i, show (((i + 1 : Nat) : Int)).toNat = i + 1 from Int.toNat_natCast (i + 1), extract_B, show i + 1 - i = 1 by omega, List.drop_eq_getElem_cons h]
  rfl
def greatB (c : UInt8) : Bool := decide (65 ≤ c.toNat ∧ c.toNat ≤ 90)
theorem small_f (c : UInt8) : hyphen_small.f (c.toNat : Int) = some (smallB c) := by
  unfold hyphen_small.f smallB
  by_cases h : 97 ≤ c.toNat
  · rw [if_pos (by omega)]; simp [h]; omega
  · rw [if_neg (by omega)]; simp; omega
theorem rsmall_f (c : UInt8) : frisketref09_small.f (c.toNat : Int) = some (smallB c) := small_f c
theorem great_f (c : UInt8) : frisketref09_great.f (c.toNat : Int) = some (greatB c) := by
  unfold frisketref09_great.f greatB
  by_cases h : 65 ≤ c.toNat
  · rw [if_pos (by omega)]; simp [h]; omega
  · rw [if_neg (by omega)]; simp; omega
theorem low_letter (c : UInt8) : smallB (lowB c) = (smallB c || greatB c) := by
  unfold lowB smallB greatB
  by_cases h : 65 ≤ c.toNat ∧ c.toNat ≤ 90
  · rw [if_pos h, UInt8.toNat_add]
    have : (32 : UInt8).toNat = 32 := rfl
    rw [Bool.eq_iff_iff]; simp; omega
  · rw [if_neg h]
    rw [Bool.eq_iff_iff]; simp; omega
def wordS (l : List UInt8) : Bool := (l.all fun c => smallB c || greatB c) && decide (1 ≤ l.length ∧ l.length ≤ 60)
def lowS (l : List UInt8) : List UInt8 := l.map lowB
theorem low_f (l : List UInt8) (h : l.length ≤ 140737488351232) : hyphen_low.f (B l) = some (if (l.all fun c => smallB c || greatB c) = true then (B (lowS l), decide (1 ≤ l.length ∧ l.length ≤ 60)) else (B [], false)) := by
  unfold hyphen_low.f lowF lowS
  rw [if_pos (by rw [size_B]; exact h), data_B, size_B]
  simp only [low_letter]
  rfl
theorem word_l (l : List UInt8) (hn : l.length ≤ 140737488351232) : ∀ (d i : Nat), i + d = l.length → Ev (fun k => frisketref09_word.l0 k (B l) (i : Int)) (((l.drop i).all fun c => smallB c || greatB c) && decide (1 ≤ l.length ∧ l.length ≤ 60))
  | 0, i, hi => by
    have e : l.drop i = [] := List.drop_of_length_le (by omega)
    rw [e]
    refine Ev.step (f := fun _ => some _) (fun k => ?_) (Ev.now _)
    rw [frisketref09_word.l0, if_neg (by rw [size_B]; omega), size_B]
    by_cases h1 : 1 ≤ l.length
    · rw [if_pos (by omega)]; simp [h1]; omega
    · rw [if_neg (by omega)]; simp; omega
  | d + 1, i, hi => by
    have hlt : i < l.length := by omega
    have ih := word_l l hn d (i + 1) (by omega)
    rw [List.drop_eq_getElem_cons hlt, List.all_cons]
    have h1 : ((i : Int) < ((B l).size : Int)) := by rw [size_B]; omega
    by_cases hs : smallB l[i] = true
    · rw [hs, Bool.true_or, Bool.true_and]
      refine Ev.step (fun k => ?_) ih
      rw [frisketref09_word.l0, if_pos h1, if_pos (by omega), bt_B l i hlt, rsmall_f, hs, w64s hlt (by omega)]; rfl
    · rw [Bool.eq_false_iff.2 hs, Bool.false_or]
      by_cases hg : greatB l[i] = true
      · rw [hg, Bool.true_and]
        refine Ev.step (fun k => ?_) ih
        rw [frisketref09_word.l0, if_pos h1, if_pos (by omega), bt_B l i hlt, rsmall_f, Bool.eq_false_iff.2 hs, great_f, hg, w64s hlt (by omega)]; rfl
      · rw [Bool.eq_false_iff.2 hg, Bool.false_and, Bool.false_and]
        refine Ev.step (f := fun _ => some _) (fun k => ?_) (Ev.now _)
        rw [frisketref09_word.l0, if_pos h1, if_pos (by omega), bt_B l i hlt, rsmall_f, Bool.eq_false_iff.2 hs, great_f, Bool.eq_false_iff.2 hg]; rfl
theorem word_f (l : List UInt8) (hn : l.length ≤ 140737488351232) : Ev (fun k => frisketref09_word.f k (B l)) (wordS l) := by
  have h := word_l l hn l.length 0 (by omega)
  exact h
theorem strOf1 (c : UInt8) (h : greatB c = true) : strOfNums [((((c.toNat : Int) + 97) % 256) - 65) % 256] = B [lowB c] := by
  have h' := of_decide_eq_true h
  have e : ((((c.toNat : Int) + 97) % 256) - 65) % 256 = ((lowB c).toNat : Int) := by
    unfold lowB
    rw [if_pos h', UInt8.toNat_add]
    have : (32 : UInt8).toNat = 32 := rfl
    omega
  rw [e]
  unfold strOfNums B
  simp
theorem lower_l (l : List UInt8) (hn : l.length ≤ 140737488351232) : ∀ (d i : Nat), i + d = l.length → Ev (fun k => frisketref09_lower.l0 k (B l) (B (lowS (l.take i))) (i : Int)) (B (lowS l))
  | 0, i, hi => by
    have e : l.take i = l := List.take_of_length_le (by omega)
    refine Ev.step (f := fun _ => some _) (fun k => ?_) (Ev.now _)
    rw [frisketref09_lower.l0, if_neg (by rw [size_B]; omega), e]
  | d + 1, i, hi => by
    have hlt : i < l.length := by omega
    have ih := lower_l l hn d (i + 1) (by omega)
    have h1 : ((i : Int) < ((B l).size : Int)) := by rw [size_B]; omega
    have e : lowS (l.take (i + 1)) = lowS (l.take i) ++ [lowB l[i]] := by
      unfold lowS; rw [List.take_succ_eq_append_getElem hlt, List.map_append]; rfl
    rw [e, ← append_B] at ih
    have hl : (lowS (l.take i)).length = i := by unfold lowS; simp [Nat.min_eq_left (Nat.le_of_lt hlt)]
    by_cases hg : greatB l[i] = true
    · refine Ev.step (fun k => ?_) ih
      rw [frisketref09_lower.l0, if_pos h1, if_pos (by omega), bt_B l i hlt, great_f, hg]
      rw [Option.bind_some, if_pos rfl, Option.bind_some, strOf1 _ hg, if_pos (by rw [size_B, size_B, hl, List.length_singleton]; omega), w64s hlt (by omega)]
    · have hc : lowB l[i] = l[i] := by unfold lowB; rw [if_neg (by unfold greatB at hg; simpa using hg)]
      rw [hc] at ih
      refine Ev.step (fun k => ?_) ih
      rw [frisketref09_lower.l0, if_pos h1, if_pos (by omega), bt_B l i hlt, great_f, Bool.eq_false_iff.2 hg]
      rw [Option.bind_some, if_neg Bool.false_ne_true, w64s hlt (by omega), if_pos (by omega), if_pos (by rw [size_B]; omega), take1 l i hlt, if_pos (by rw [size_B, size_B, hl, List.length_singleton]; omega)]
theorem lower_f (l : List UInt8) (hn : l.length ≤ 140737488351232) : Ev (fun k => frisketref09_lower.f k (B l)) (B (lowS l)) := by
  have h := lower_l l hn l.length 0 (by omega)
  exact h
/-- Lists of numbers that are the same. -/
theorem numbers_l (a : List Int) (hn : a.length ≤ 17592186044416) : ∀ (d i : Nat), i + d = a.length → Ev (fun k => frisketlaw09_numbers.l0 k a a (i : Int)) true
  | 0, i, hi => by
    refine Ev.step (f := fun _ => some _) (fun k => ?_) (Ev.now _)
    rw [frisketlaw09_numbers.l0, if_neg (by omega)]
  | d + 1, i, hi => by
    refine Ev.step (fun k => ?_) (numbers_l a hn d (i + 1) (by omega))
    rw [frisketlaw09_numbers.l0, if_pos (by omega), if_pos (by omega), if_pos (by omega), if_pos rfl, w64s (n := a.length) (by omega) (by omega)]
theorem numbers_same (a : List Int) (hn : a.length ≤ 17592186044416) : Ev (fun k => frisketlaw09_numbers.f k a a) true := by
  refine Ev.congr (fun k => ?_) (numbers_l a hn a.length 0 (by omega))
  rw [frisketlaw09_numbers.f, if_pos rfl]; rfl
end Go.Proofs.YtmjglgbkigjfkaaDoor.Pure
namespace Go.Proofs.YtmjglgbkigjfkaaDoor.Pure
open Go.RowKit Go.Proofs.YtmjglgbkigjfkaaDoor Go.Proofs.YtmjglgbkigjfkaaDoor.Xa Go.Proofs.YtmjglgbkigjfkaaDoorW.PrintWords Go.Proofs.YtmjglgbkigjfkaaDoorW.PrintLast Go.Proofs.YtmjglgbkigjfkaaDoorW.PrintMore
def digB (c : UInt8) : Bool := decide (49 ≤ c.toNat ∧ c.toNat ≤ 57)
/-- A pattern read on from place i: how many letters, the digit that stands ahead, the letters, the values; none: it is none. -/
def patS (l : List UInt8) : Nat → Nat → Nat → Nat → List UInt8 → List Int → Option (Nat × List UInt8 × List Int)
  | 0, _, m, g, t, v => some (m, t, v ++ [(g : Int)])
  | d + 1, i, m, g, t, v =>
    if digB (l.getD i 0) = true then (if g = 0 then patS l d (i + 1) m ((l.getD i 0).toNat - 48) t v else none)
    else if smallB (l.getD i 0) = true then patS l d (i + 1) (m + 1) 0 (t ++ [l.getD i 0]) (v ++ [(g : Int)])
    else if l.getD i 0 = 46 ∧ (i = 0 ∨ i + 1 = l.length) then patS l d (i + 1) m 0 (t ++ [l.getD i 0]) (v ++ [(g : Int)])
    else none
/-- What both answer: where the reading is good, its letters and values; else a false. -/
def Tells (o : Option (Nat × List UInt8 × List Int)) (r : ByteArray × List Int × Bool) : Prop :=
  match o with
  | none => r.2.2 = false
  | some (m, t, v) => if 1 ≤ m ∧ m ≤ 15 then r = (B t, v, true) else r.2.2 = false
theorem getD_at (l : List UInt8) (i : Nat) (h : i < l.length) : l.getD i 0 = l[i] := by
  rw [List.getD_eq_getElem?_getD, List.getElem?_eq_getElem h]; rfl
theorem bt_D (l : List UInt8) (i : Nat) (h : i < l.length) : bt (B l) (i : Int) = ((l.getD i 0).toNat : Int) := by rw [bt_B l i h, getD_at l i h]
theorem take1D (l : List UInt8) (i : Nat) (h : i < l.length) : (B l).extract ((i : Int)).toNat (((i + 1 : Nat) : Int)).toNat = B [l.getD i 0] := by rw [take1 l i h, getD_at l i h]
theorem eq46 (c : UInt8) : ((c.toNat : Int) = 46) ↔ c = 46 := by
  constructor
  · intro h
    have : c.toNat = (46 : UInt8).toNat := by have : (46 : UInt8).toNat = 46 := rfl
                                              omega
    exact UInt8.toNat_inj.1 this
  · intro h; subst h; rfl
theorem small_not46 {c : UInt8} (h : smallB c = true) : ¬ c = 46 := by
  intro e; subst e; revert h; decide
theorem dig_not_small {c : UInt8} (h : digB c = true) : smallB c = false := by
  have := of_decide_eq_true h
  exact decide_eq_false (by omega)
theorem read_j2_letter (l : List UInt8) (hn : l.length ≤ 1048576) (k m g i : Nat) (t : List UInt8) (v : List Int) (hi : i < l.length) (ht : t.length ≤ i) (hv : v.length ≤ i) (hm : m ≤ i) (c : UInt8) (hc : c = l.getD i 0) :
    hyphen_read.j2 (k + 1) (B l) (m : Int) (g : Int) (i : Int) (c.toNat : Int) (l.length : Int) (i : Int) true (B t) v =
    hyphen_read.l0 k (B l) ((if c = 46 then m else m + 1 : Nat) : Int) 0 (l.length : Int) ((i + 1 : Nat) : Int) (B (t ++ [c])) (v ++ [(g : Int)]) := by
  rw [hyphen_read.j2, if_pos rfl, w64s hi (by omega)]
  by_cases h : c = 46
  · rw [if_pos ((eq46 c).2 h), if_pos h, if_pos (by omega), if_pos (by omega), if_pos (by rw [size_B]; omega), take1D l i hi, ← hc, if_pos (by rw [size_B, size_B, List.length_singleton]; omega), if_pos (by omega), append_B]
  · rw [if_neg (fun e => h ((eq46 c).1 e)), if_neg h, if_pos (by omega), if_pos (by omega), if_pos (by rw [size_B]; omega), take1D l i hi, ← hc, if_pos (by rw [size_B, size_B, List.length_singleton]; omega), if_pos (by omega), append_B, w64 (x := (m : Int) + 1) (by omega) (by omega)]
    rfl
theorem read_j2_no (k m g i : Nat) (x : Int) (n : Int) (l t : List UInt8) (v : List Int) :
    hyphen_read.j2 (k + 1) (B l) (m : Int) (g : Int) (i : Int) x n (i : Int) false (B t) v = some (B t, v, false) := by
  rw [hyphen_read.j2, if_neg Bool.false_ne_true]
theorem read_l (l : List UInt8) (hn : l.length ≤ 1048576) : ∀ (d i m g : Nat) (t : List UInt8) (v : List Int), i + d = l.length → t.length ≤ i → v.length ≤ i → m ≤ i → g ≤ 9 →
    ∃ r, Ev (fun k => hyphen_read.l0 k (B l) (m : Int) (g : Int) (l.length : Int) (i : Int) (B t) v) r ∧ Tells (patS l d i m g t v) r
  | 0, i, m, g, t, v, hi, ht, hv, hm, hg => by
    refine ⟨(B t, v ++ [(g : Int)], decide (1 ≤ m ∧ m ≤ 15)), Ev.step (f := fun _ => some _) (fun k => ?_) (Ev.now _), ?_⟩
    · rw [hyphen_read.l0, if_neg (by omega), if_pos (by omega), Option.bind_some]
      by_cases h1 : 1 ≤ m
      · rw [if_pos (by omega)]
        have e : decide ((m : Int) ≤ 15) = decide (1 ≤ m ∧ m ≤ 15) := by rw [decide_eq_decide]; omega
        rw [e]
      · rw [if_neg (by omega)]
        have e : false = decide (1 ≤ m ∧ m ≤ 15) := (decide_eq_false (by omega)).symm
        rw [← e]
    · unfold Tells patS
      dsimp only
      split
      · rename_i h; rw [decide_eq_true h]
      · rename_i h; exact decide_eq_false h
  | d + 1, i, m, g, t, v, hi, ht, hv, hm, hg => by
    have hlt : i < l.length := by omega
    have h1 : ((i : Int) < ((B l).size : Int)) := by rw [size_B]; omega
    obtain ⟨c, hc⟩ : ∃ c, c = l.getD i 0 := ⟨_, rfl⟩
    have hb : bt (B l) (i : Int) = (c.toNat : Int) := by rw [bt_D l i hlt, hc]
    have hhead : ∀ k, hyphen_read.l0 (k + 1) (B l) (m : Int) (g : Int) (l.length : Int) (i : Int) (B t) v = hyphen_read.j1 k (B l) (m : Int) (g : Int) (i : Int) (c.toNat : Int) (l.length : Int) (i : Int) (digB c) (B t) v := by
      intro k
      rw [hyphen_read.l0, if_pos (by omega), if_pos (by omega), if_pos h1, hb]
      by_cases h49 : 49 ≤ c.toNat
      · rw [if_pos (by omega)]
        have e : decide ((c.toNat : Int) ≤ 57) = digB c := by unfold digB; rw [decide_eq_decide]; omega
        rw [e]
      · rw [if_neg (by omega)]
        have e : digB c = false := decide_eq_false (by omega)
        rw [e]
    have hgoal : ∀ r, Ev (fun k => hyphen_read.j1 k (B l) (m : Int) (g : Int) (i : Int) (c.toNat : Int) (l.length : Int) (i : Int) (digB c) (B t) v) r → Ev (fun k => hyphen_read.l0 k (B l) (m : Int) (g : Int) (l.length : Int) (i : Int) (B t) v) r := fun r h => Ev.step hhead h
    unfold patS
    rw [← hc]
    by_cases hd : digB c = true
    · rw [if_pos hd]
      rw [hd] at hgoal
      by_cases h0 : g = 0
      · subst h0
        rw [if_pos rfl]
        obtain ⟨r, hr, ht'⟩ := read_l l hn d (i + 1) m (c.toNat - 48) t v (by omega) (by omega) (by omega) (by omega) (by have := of_decide_eq_true hd; omega)
        refine ⟨r, hgoal r (Ev.step (fun k => ?_) hr), ht'⟩
        have := of_decide_eq_true hd
        rw [hyphen_read.j1, if_pos rfl, if_neg (by omega), w64s hlt (by omega), show ((c.toNat : Int) - 48) % 256 = ((c.toNat - 48 : Nat) : Int) by omega]
      · rw [if_neg h0]
        refine ⟨(B t, v, false), hgoal _ (Ev.step (f := fun _ => some _) (fun k => ?_) (Ev.now _)), rfl⟩
        rw [hyphen_read.j1, if_pos rfl, if_pos (by omega)]
    · rw [if_neg hd]
      rw [Bool.eq_false_iff.2 hd] at hgoal
      by_cases hs : smallB c = true
      · rw [if_pos hs]
        obtain ⟨r, hr, ht'⟩ := read_l l hn d (i + 1) (m + 1) 0 (t ++ [c]) (v ++ [(g : Int)]) (by omega) (by rw [List.length_append, List.length_singleton]; omega) (by rw [List.length_append, List.length_singleton]; omega) (by omega) (by omega)
        refine ⟨r, hgoal r (Ev.step (f := fun k => hyphen_read.j2 k (B l) (m : Int) (g : Int) (i : Int) (c.toNat : Int) (l.length : Int) (i : Int) true (B t) v) (fun k => ?_) (Ev.step (fun k => ?_) hr)), ht'⟩
        · rw [hyphen_read.j1, if_neg Bool.false_ne_true, small_f, hs, Option.bind_some, if_pos rfl]
        · rw [read_j2_letter l hn k m g i t v hlt ht hv hm c hc, if_neg (small_not46 hs)]; rfl
      · rw [if_neg hs]
        by_cases h46 : c = 46
        · by_cases hp : i = 0 ∨ i + 1 = l.length
          · rw [if_pos ⟨h46, hp⟩]
            obtain ⟨r, hr, ht'⟩ := read_l l hn d (i + 1) m 0 (t ++ [c]) (v ++ [(g : Int)]) (by omega) (by rw [List.length_append, List.length_singleton]; omega) (by rw [List.length_append, List.length_singleton]; omega) (by omega) (by omega)
            refine ⟨r, hgoal r (Ev.step (f := fun k => hyphen_read.j2 k (B l) (m : Int) (g : Int) (i : Int) (c.toNat : Int) (l.length : Int) (i : Int) true (B t) v) (fun k => ?_) (Ev.step (fun k => ?_) hr)), ht'⟩
            · rw [hyphen_read.j1, if_neg Bool.false_ne_true, small_f, Bool.eq_false_iff.2 hs, Option.bind_some, if_neg Bool.false_ne_true, if_pos ((eq46 c).2 h46)]
              by_cases hi0 : i = 0
              · rw [if_pos (by omega)]
              · rw [if_neg (by omega), size_B, w64 (x := (l.length : Int) - 1) (by omega) (by omega)]
                have e : ((i : Int) == (l.length : Int) - 1) = true := beq_iff_eq.2 (by omega)
                rw [e]
            · rw [read_j2_letter l hn k m g i t v hlt ht hv hm c hc, if_pos h46]; rfl
          · rw [if_neg (fun h => hp h.2)]
            refine ⟨(B t, v, false), hgoal _ (Ev.step (f := fun k => hyphen_read.j2 k (B l) (m : Int) (g : Int) (i : Int) (c.toNat : Int) (l.length : Int) (i : Int) false (B t) v) (fun k => ?_) (Ev.step (f := fun _ => some _) (fun k => read_j2_no k m g i (c.toNat : Int) (l.length : Int) l t v) (Ev.now _))), rfl⟩
            rw [hyphen_read.j1, if_neg Bool.false_ne_true, small_f, Bool.eq_false_iff.2 hs, Option.bind_some, if_neg Bool.false_ne_true, if_pos ((eq46 c).2 h46), if_neg (by omega), size_B, w64 (x := (l.length : Int) - 1) (by omega) (by omega)]
            have e : ((i : Int) == (l.length : Int) - 1) = false := beq_eq_false_iff_ne.2 (by omega)
            rw [e]
        · rw [if_neg (fun h => h46 h.1)]
          refine ⟨(B t, v, false), hgoal _ (Ev.step (f := fun k => hyphen_read.j2 k (B l) (m : Int) (g : Int) (i : Int) (c.toNat : Int) (l.length : Int) (i : Int) false (B t) v) (fun k => ?_) (Ev.step (f := fun _ => some _) (fun k => read_j2_no k m g i (c.toNat : Int) (l.length : Int) l t v) (Ev.now _))), rfl⟩
          rw [hyphen_read.j1, if_neg Bool.false_ne_true, small_f, Bool.eq_false_iff.2 hs, Option.bind_some, if_neg Bool.false_ne_true, if_neg (fun e => h46 ((eq46 c).1 e))]
theorem read_f (l : List UInt8) (hn : l.length ≤ 1048576) : ∃ r, Ev (fun k => hyphen_read.f k (B l)) r ∧ Tells (patS l l.length 0 0 0 [] []) r := by
  obtain ⟨r, hr, ht⟩ := read_l l hn l.length 0 0 0 [] [] (by omega) (by simp) (by simp) (by omega) (by omega)
  refine ⟨r, Ev.congr (fun k => ?_) hr, ht⟩
  rw [hyphen_read.f, size_B]; rfl
end Go.Proofs.YtmjglgbkigjfkaaDoor.Pure
