/- Layer 9 (hyphen): the plain law of HyphenMore: what the walk computes answers as the statement says. -/
import Derived.Test.YtmjglgbkigjfkaaDoorYQ0
import Derived.Test.YtmjglgbkigjfkaaDoorYa0
import Derived.Test.YtmjglgbkigjfkaaDoorYa3
import Derived.Test.YtmjglgbkigjfkaaDoorYa4
import Derived.Test.YtmjglgbkigjfkaaDoorYa5
import Derived.Test.YtmjglgbkigjfkaaDoorYa6
import Derived.Test.YtmjglgbkigjfkaaDoorYa7
import Derived.Test.YtmjglgbkigjfkaaDoorYa8
import Derived.Test.YtmjglgbkigjfkaaDoorYa9
import Derived.Test.YtmjglgbkigjfkaaDoorYa10
import Derived.Test.YtmjglgbkigjfkaaDoorYa12
import Derived.Test.YtmjglgbkigjfkaaDoorYa1
import Derived.Test.YtmjglgbkigjfkaaDoorYa2
import Derived.Test.YtmjglgbkigjfkaaDoorYa27
set_option linter.unusedVariables false
set_option linter.unusedSimpArgs false
namespace Go.Proofs.YtmjglgbkigjfkaaDoor.Pure
open Go.RowKit Go.Proofs.YtmjglgbkigjfkaaDoor Go.Proofs.YtmjglgbkigjfkaaDoor.Xa Go.Proofs.YtmjglgbkigjfkaaDoorW.PrintWords Go.Proofs.YtmjglgbkigjfkaaDoorW.PrintLast Go.Proofs.YtmjglgbkigjfkaaDoorW.PrintMore
/-- A text out of its bytes. -/
def B (l : List UInt8) : ByteArray := ⟨l.toArray⟩
theorem size_B (l : List UInt8) : (B l).size = l.length := by simp [B, ByteArray.size]
theorem data_B (l : List UInt8) : (B l).data.toList = l := by simp [B]
theorem toList_B (l : List UInt8) : (B l).toList = l := by rw [Lib.toList_data, data_B]
theorem append_B (l m : List UInt8) : B l ++ B m = B (l ++ m) := by
  apply ByteArray.ext
  simp [B]
theorem bt_B (l : List UInt8) (i : Nat) (h : i < l.length) : bt (B l) (i : Int) = (l[i].toNat : Int) := by
  have h' : ((i : Int)).toNat < (B l).size := by rw [size_B]; simpa using h
  unfold bt
  rw [dif_pos h']
  simp [B]
  rfl
theorem extract_B (l : List UInt8) (a b : Nat) : (B l).extract a b = B ((l.drop a).take (b - a)) := by
  apply ByteArray.ext
  simp [B]
theorem w64 {x : Int} (h0 : -9223372036854775808 ≤ x) (h1 : x ≤ 9223372036854775807) : wrap64 x = x := by unfold wrap64; omega
theorem w64s {i n : Nat} (h : i < n) (hn : n ≤ 281474976710656) : wrap64 ((i : Int) + 1) = ((i + 1 : Nat) : Int) := by rw [w64 (by omega) (by omega)]; omega
theorem take1 (l : List UInt8) (i : Nat) (h : i < l.length) : (B l).extract ((i : Int)).toNat (((i + 1 : Nat) : Int)).toNat = B [l[i]] := by
  rw [show ((i : Int)).toNat = i from Int.toNat_natCast i, show (((i + 1 : Nat) : Int)).toNat = i + 1 from Int.toNat_natCast (i + 1), extract_B, show i + 1 - i = 1 by omega, List.drop_eq_getElem_cons h]
  rfl
def greatB (c : UInt8) : Bool := decide (65 ≤ c.toNat ∧ c.toNat ≤ 90)
theorem small_f (c : UInt8) : hyphen_small.f (c.toNat : Int) = some (smallB c) := by
  unfold hyphen_small.f smallB
  by_cases h : 97 ≤ c.toNat
  · rw [if_pos (by omega)]; simp [h]; omega
  · rw [if_neg (by omega)]; simp; omega
theorem low_letter (c : UInt8) : smallB (lowB c) = (smallB c || greatB c) := by
  unfold lowB smallB greatB
  by_cases h : 65 ≤ c.toNat ∧ c.toNat ≤ 90
  · rw [if_pos h, UInt8.toNat_add]
    have : (32 : UInt8).toNat = 32 := rfl
    rw [Bool.eq_iff_iff]; simp; omega
  · rw [if_neg h]
    rw [Bool.eq_iff_iff]; simp; omega
def wordS (l : List UInt8) : Bool := (l.all fun c => smallB c || greatB c) && decide (1 ≤ l.length ∧ l.length ≤ 60)
def lowS (l : List UInt8) : List UInt8 := l.map lowB
theorem low_f (l : List UInt8) (h : l.length ≤ 140737488351232) : hyphen_low.f (B l) = some (if (l.all fun c => smallB c || greatB c) = true then (B (lowS l), decide (1 ≤ l.length ∧ l.length ≤ 60)) else (B [], false)) := by
  unfold hyphen_low.f lowF lowS
  rw [if_pos (by rw [size_B]; exact h), data_B, size_B]
  simp only [low_letter]
  rfl
end Go.Proofs.YtmjglgbkigjfkaaDoor.Pure

namespace Go.Proofs.YtmjglgbkigjfkaaDoor.Pure
open Go.RowKit Go.Proofs.YtmjglgbkigjfkaaDoor Go.Proofs.YtmjglgbkigjfkaaDoor.Xa Go.Proofs.YtmjglgbkigjfkaaDoorW.PrintWords Go.Proofs.YtmjglgbkigjfkaaDoorW.PrintLast Go.Proofs.YtmjglgbkigjfkaaDoorW.PrintMore
def digB (c : UInt8) : Bool := decide (49 ≤ c.toNat ∧ c.toNat ≤ 57)
/-- A pattern read on from place i: how many letters, the digit that stands ahead, the letters, the values; none: it is none. -/
def patS (l : List UInt8) : Nat → Nat → Nat → Nat → List UInt8 → List Int → Option (Nat × List UInt8 × List Int)
  | 0, _, m, g, t, v => some (m, t, v ++ [(g : Int)])
  | d + 1, i, m, g, t, v =>
    if digB (l.getD i 0) = true then (if g = 0 then patS l d (i + 1) m ((l.getD i 0).toNat - 48) t v else none)
    else if smallB (l.getD i 0) = true then patS l d (i + 1) (m + 1) 0 (t ++ [l.getD i 0]) (v ++ [(g : Int)])
    else if l.getD i 0 = 46 ∧ (i = 0 ∨ i + 1 = l.length) then patS l d (i + 1) m 0 (t ++ [l.getD i 0]) (v ++ [(g : Int)])
    else none
/-- What both answer: where the reading is good, its letters and values; else a false. -/
def Tells (o : Option (Nat × List UInt8 × List Int)) (r : ByteArray × List Int × Bool) : Prop :=
  match o with
  | none => r.2.2 = false
  | some (m, t, v) => if 1 ≤ m ∧ m ≤ 15 then r = (B t, v, true) else r.2.2 = false
theorem getD_at (l : List UInt8) (i : Nat) (h : i < l.length) : l.getD i 0 = l[i] := by
  rw [List.getD_eq_getElem?_getD, List.getElem?_eq_getElem h]; rfl
theorem bt_D (l : List UInt8) (i : Nat) (h : i < l.length) : bt (B l) (i : Int) = ((l.getD i 0).toNat : Int) := by rw [bt_B l i h, getD_at l i h]
theorem take1D (l : List UInt8) (i : Nat) (h : i < l.length) : (B l).extract ((i : Int)).toNat (((i + 1 : Nat) : Int)).toNat = B [l.getD i 0] := by rw [take1 l i h, getD_at l i h]
theorem eq46 (c : UInt8) : ((c.toNat : Int) = 46) ↔ c = 46 := by
  constructor
  · intro h
    have : c.toNat = (46 : UInt8).toNat := by have : (46 : UInt8).toNat = 46 := rfl
                                              omega
    exact UInt8.toNat_inj.1 this
  · intro h; subst h; rfl
theorem small_not46 {c : UInt8} (h : smallB c = true) : ¬ c = 46 := by
  intro e; subst e; revert h; decide
theorem dig_not_small {c : UInt8} (h : digB c = true) : smallB c = false := by
  have := of_decide_eq_true h
  exact decide_eq_false (by omega)
theorem read_j2_letter (l : List UInt8) (hn : l.length ≤ 1048576) (k m g i : Nat) (t : List UInt8) (v : List Int) (hi : i < l.length) (ht : t.length ≤ i) (hv : v.length ≤ i) (hm : m ≤ i) (c : UInt8) (hc : c = l.getD i 0) :
    hyphen_read.j2 (k + 1) (B l) (m : Int) (g : Int) (i : Int) (c.toNat : Int) (l.length : Int) (i : Int) true (B t) v =
    hyphen_read.l0 k (B l) ((if c = 46 then m else m + 1 : Nat) : Int) 0 (l.length : Int) ((i + 1 : Nat) : Int) (B (t ++ [c])) (v ++ [(g : Int)]) := by
  rw [hyphen_read.j2, if_pos rfl, w64s hi (by omega)]
  by_cases h : c = 46
  · rw [if_pos ((eq46 c).2 h), if_pos h, if_pos (by omega), if_pos (by omega), if_pos (by rw [size_B]; omega), take1D l i hi, ← hc, if_pos (by rw [size_B, size_B, List.length_singleton]; omega), if_pos (by omega), append_B]
  · rw [if_neg (fun e => h ((eq46 c).1 e)), if_neg h, if_pos (by omega), if_pos (by omega), if_pos (by rw [size_B]; omega), take1D l i hi, ← hc, if_pos (by rw [size_B, size_B, List.length_singleton]; omega), if_pos (by omega), append_B, w64 (x := (m : Int) + 1) (by omega) (by omega)]
    rfl
theorem read_j2_no (k m g i : Nat) (x : Int) (n : Int) (l t : List UInt8) (v : List Int) :
    hyphen_read.j2 (k + 1) (B l) (m : Int) (g : Int) (i : Int) x n (i : Int) false (B t) v = some (B t, v, false) := by
  rw [hyphen_read.j2, if_neg Bool.false_ne_true]
theorem read_l (l : List UInt8) (hn : l.length ≤ 1048576) : ∀ (d i m g : Nat) (t : List UInt8) (v : List Int), i + d = l.length → t.length ≤ i → v.length ≤ i → m ≤ i → g ≤ 9 →
    ∃ r, Ev (fun k => hyphen_read.l0 k (B l) (m : Int) (g : Int) (l.length : Int) (i : Int) (B t) v) r ∧ Tells (patS l d i m g t v) r
  | 0, i, m, g, t, v, hi, ht, hv, hm, hg => by
    refine ⟨(B t, v ++ [(g : Int)], decide (1 ≤ m ∧ m ≤ 15)), Ev.step (f := fun _ => some _) (fun k => ?_) (Ev.now _), ?_⟩
    · rw [hyphen_read.l0, if_neg (by omega), if_pos (by omega), Option.bind_some]
      by_cases h1 : 1 ≤ m
      · rw [if_pos (by omega)]
        have e : decide ((m : Int) ≤ 15) = decide (1 ≤ m ∧ m ≤ 15) := by rw [decide_eq_decide]; omega
        rw [e]
      · rw [if_neg (by omega)]
        have e : false = decide (1 ≤ m ∧ m ≤ 15) := (decide_eq_false (by omega)).symm
        rw [← e]
    · unfold Tells patS
      dsimp only
      split
      · rename_i h; rw [decide_eq_true h]
      · rename_i h; exact decide_eq_false h
  | d + 1, i, m, g, t, v, hi, ht, hv, hm, hg => by
    have hlt : i < l.length := by omega
    have h1 : ((i : Int) < ((B l).size : Int)) := by rw [size_B]; omega
    obtain ⟨c, hc⟩ : ∃ c, c = l.getD i 0 := ⟨_, rfl⟩
    have hb : bt (B l) (i : Int) = (c.toNat : Int) := by rw [bt_D l i hlt, hc]
    have hhead : ∀ k, hyphen_read.l0 (k + 1) (B l) (m : Int) (g : Int) (l.length : Int) (i : Int) (B t) v = hyphen_read.j1 k (B l) (m : Int) (g : Int) (i : Int) (c.toNat : Int) (l.length : Int) (i : Int) (digB c) (B t) v := by
      intro k
      rw [hyphen_read.l0, if_pos (by omega), if_pos (by omega), if_pos h1, hb]
      by_cases h49 : 49 ≤ c.toNat
      · rw [if_pos (by omega)]
        have e : decide ((c.toNat : Int) ≤ 57) = digB c := by unfold digB; rw [decide_eq_decide]; omega
        rw [e]
      · rw [if_neg (by omega)]
        have e : digB c = false := decide_eq_false (by omega)
        rw [e]
    have hgoal : ∀ r, Ev (fun k => hyphen_read.j1 k (B l) (m : Int) (g : Int) (i : Int) (c.toNat : Int) (l.length : Int) (i : Int) (digB c) (B t) v) r → Ev (fun k => hyphen_read.l0 k (B l) (m : Int) (g : Int) (l.length : Int) (i : Int) (B t) v) r := fun r h => Ev.step hhead h
    unfold patS
    rw [← hc]
    by_cases hd : digB c = true
    · rw [if_pos hd]
      rw [hd] at hgoal
      by_cases h0 : g = 0
      · subst h0
        rw [if_pos rfl]
        obtain ⟨r, hr, ht'⟩ := read_l l hn d (i + 1) m (c.toNat - 48) t v (by omega) (by omega) (by omega) (by omega) (by have := of_decide_eq_true hd; omega)
        refine ⟨r, hgoal r (Ev.step (fun k => ?_) hr), ht'⟩
        have := of_decide_eq_true hd
        rw [hyphen_read.j1, if_pos rfl, if_neg (by omega), w64s hlt (by omega), show ((c.toNat : Int) - 48) % 256 = ((c.toNat - 48 : Nat) : Int) by omega]
      · rw [if_neg h0]
        refine ⟨(B t, v, false), hgoal _ (Ev.step (f := fun _ => some _) (fun k => ?_) (Ev.now _)), rfl⟩
        rw [hyphen_read.j1, if_pos rfl, if_pos (by omega)]
    · rw [if_neg hd]
      rw [Bool.eq_false_iff.2 hd] at hgoal
      by_cases hs : smallB c = true
      · rw [if_pos hs]
        obtain ⟨r, hr, ht'⟩ := read_l l hn d (i + 1) (m + 1) 0 (t ++ [c]) (v ++ [(g : Int)]) (by omega) (by rw [List.length_append, List.length_singleton]; omega) (by rw [List.length_append, List.length_singleton]; omega) (by omega) (by omega)
        refine ⟨r, hgoal r (Ev.step (f := fun k => hyphen_read.j2 k (B l) (m : Int) (g : Int) (i : Int) (c.toNat : Int) (l.length : Int) (i : Int) true (B t) v) (fun k => ?_) (Ev.step (fun k => ?_) hr)), ht'⟩
        · rw [hyphen_read.j1, if_neg Bool.false_ne_true, small_f, hs, Option.bind_some, if_pos rfl]
        · rw [read_j2_letter l hn k m g i t v hlt ht hv hm c hc, if_neg (small_not46 hs)]; rfl
      · rw [if_neg hs]
        by_cases h46 : c = 46
        · by_cases hp : i = 0 ∨ i + 1 = l.length
          · rw [if_pos ⟨h46, hp⟩]
            obtain ⟨r, hr, ht'⟩ := read_l l hn d (i + 1) m 0 (t ++ [c]) (v ++ [(g : Int)]) (by omega) (by rw [List.length_append, List.length_singleton]; omega) (by rw [List.length_append, List.length_singleton]; omega) (by omega) (by omega)
            refine ⟨r, hgoal r (Ev.step (f := fun k => hyphen_read.j2 k (B l) (m : Int) (g : Int) (i : Int) (c.toNat : Int) (l.length : Int) (i : Int) true (B t) v) (fun k => ?_) (Ev.step (fun k => ?_) hr)), ht'⟩
            · rw [hyphen_read.j1, if_neg Bool.false_ne_true, small_f, Bool.eq_false_iff.2 hs, Option.bind_some, if_neg Bool.false_ne_true, if_pos ((eq46 c).2 h46)]
              by_cases hi0 : i = 0
              · rw [if_pos (by omega)]
              · rw [if_neg (by omega), size_B, w64 (x := (l.length : Int) - 1) (by omega) (by omega)]
                have e : ((i : Int) == (l.length : Int) - 1) = true := beq_iff_eq.2 (by omega)
                rw [e]
            · rw [read_j2_letter l hn k m g i t v hlt ht hv hm c hc, if_pos h46]; rfl
          · rw [if_neg (fun h => hp h.2)]
            refine ⟨(B t, v, false), hgoal _ (Ev.step (f := fun k => hyphen_read.j2 k (B l) (m : Int) (g : Int) (i : Int) (c.toNat : Int) (l.length : Int) (i : Int) false (B t) v) (fun k => ?_) (Ev.step (f := fun _ => some _) (fun k => read_j2_no k m g i (c.toNat : Int) (l.length : Int) l t v) (Ev.now _))), rfl⟩
            rw [hyphen_read.j1, if_neg Bool.false_ne_true, small_f, Bool.eq_false_iff.2 hs, Option.bind_some, if_neg Bool.false_ne_true, if_pos ((eq46 c).2 h46), if_neg (by omega), size_B, w64 (x := (l.length : Int) - 1) (by omega) (by omega)]
            have e : ((i : Int) == (l.length : Int) - 1) = false := beq_eq_false_iff_ne.2 (by omega)
            rw [e]
        · rw [if_neg (fun h => h46 h.1)]
          refine ⟨(B t, v, false), hgoal _ (Ev.step (f := fun k => hyphen_read.j2 k (B l) (m : Int) (g : Int) (i : Int) (c.toNat : Int) (l.length : Int) (i : Int) false (B t) v) (fun k => ?_) (Ev.step (f := fun _ => some _) (fun k => read_j2_no k m g i (c.toNat : Int) (l.length : Int) l t v) (Ev.now _))), rfl⟩
          rw [hyphen_read.j1, if_neg Bool.false_ne_true, small_f, Bool.eq_false_iff.2 hs, Option.bind_some, if_neg Bool.false_ne_true, if_neg (fun e => h46 ((eq46 c).1 e))]
theorem read_f (l : List UInt8) (hn : l.length ≤ 1048576) : ∃ r, Ev (fun k => hyphen_read.f k (B l)) r ∧ Tells (patS l l.length 0 0 0 [] []) r := by
  obtain ⟨r, hr, ht⟩ := read_l l hn l.length 0 0 0 [] [] (by omega) (by simp) (by simp) (by omega) (by omega)
  refine ⟨r, Ev.congr (fun k => ?_) hr, ht⟩
  rw [hyphen_read.f, size_B]; rfl
end Go.Proofs.YtmjglgbkigjfkaaDoor.Pure

namespace Go.Proofs.YtmjglgbkigjfkaaDoor.Pure
open Go.RowKit Go.Proofs.YtmjglgbkigjfkaaDoor Go.Proofs.YtmjglgbkigjfkaaDoor.Xa Go.Proofs.YtmjglgbkigjfkaaDoorW.PrintWords Go.Proofs.YtmjglgbkigjfkaaDoorW.PrintLast Go.Proofs.YtmjglgbkigjfkaaDoorW.PrintMore
/-- The readings of a pattern: its letters and values, if it is one. -/
def patOf (l : List UInt8) : Option (List UInt8 × List Int) :=
  match patS l l.length 0 0 0 [] [] with
  | none => none
  | some (m, t, v) => if 1 ≤ m ∧ m ≤ 15 then some (t, v) else none
def Told (o : Option (List UInt8 × List Int)) (r : ByteArray × List Int × Bool) : Prop :=
  match o with
  | none => r.2.2 = false
  | some (t, v) => r = (B t, v, true)
theorem told_of {l : List UInt8} {r : ByteArray × List Int × Bool} (h : Tells (patS l l.length 0 0 0 [] []) r) : Told (patOf l) r := by
  unfold patOf
  revert h
  cases patS l l.length 0 0 0 [] [] with
  | none => exact fun h => h
  | some x =>
    obtain ⟨m, t, v⟩ := x
    unfold Tells
    dsimp only
    intro h
    split
    · rename_i hm; rw [if_pos hm] at h; exact h
    · rename_i hm; rw [if_neg hm] at h; exact h
theorem read_t (l : List UInt8) (hn : l.length ≤ 1048576) : ∃ r, Ev (fun k => hyphen_read.f k (B l)) r ∧ Told (patOf l) r := by
  obtain ⟨r, hr, ht⟩ := read_f l hn
  exact ⟨r, hr, told_of ht⟩
end Go.Proofs.YtmjglgbkigjfkaaDoor.Pure

namespace Go.Proofs.YtmjglgbkigjfkaaDoor.Pure
open Go.RowKit Go.Proofs.YtmjglgbkigjfkaaDoor Go.Proofs.YtmjglgbkigjfkaaDoor.Xa Go.Proofs.YtmjglgbkigjfkaaDoorW.PrintWords Go.Proofs.YtmjglgbkigjfkaaDoorW.PrintLast Go.Proofs.YtmjglgbkigjfkaaDoorW.PrintMore
/-- A text without its dashes. -/
def nd (l : List UInt8) : List UInt8 := l.filter fun c => c != 45
theorem idx_cons (b : UInt8) (l : List UInt8) (h : b ≠ 45) : Lib.index (b :: l) [45] = if Lib.index l [45] == -1 then -1 else Lib.index l [45] + 1 := by
  rw [Lib.index_one, Lib.index_one, Lib.indexByte, if_neg (by simpa using h)]
theorem idx_hit (l : List UInt8) : Lib.index (45 :: l) [45] = 0 := by
  rw [Lib.index_one, Lib.indexByte, if_pos (by decide)]
theorem idx_nat (l : List UInt8) (h : ¬ (Lib.index l [45] == -1) = true) : ∃ i : Nat, Lib.index l [45] = i := by
  have h1 := Lib.index_ge l [45]
  have h2 : Lib.index l [45] ≠ -1 := fun e => h (beq_iff_eq.2 e)
  exact ⟨(Lib.index l [45]).toNat, by omega⟩
theorem repK_cons (b : UInt8) (l : List UInt8) (h : b ≠ 45) : ∀ n, Lib.replaceK [45] [] n (b :: l) = b :: Lib.replaceK [45] [] n l
  | 0 => rfl
  | n + 1 => by
    by_cases hi : (Lib.index l [45] == -1) = true
    · have hb : (Lib.index (b :: l) [45] == -1) = true := by rw [idx_cons b l h, if_pos hi]; rfl
      rw [Lib.replaceK, if_pos hb, Lib.replaceK, if_pos hi]
    · obtain ⟨i, e⟩ := idx_nat l hi
      have eb : Lib.index (b :: l) [45] = ((i + 1 : Nat) : Int) := by rw [idx_cons b l h, if_neg hi, e]; omega
      rw [Lib.replaceK_hit _ _ _ _ _ eb, Lib.replaceK_hit _ _ _ _ _ e]
      rfl
theorem repK_hit (l : List UInt8) (n : Nat) : Lib.replaceK [45] [] (n + 1) (45 :: l) = Lib.replaceK [45] [] n l := by
  rw [Lib.replaceK_hit _ _ _ _ 0 (idx_hit l)]
  rfl
theorem cnt_cons (b : UInt8) (l : List UInt8) (h : b ≠ 45) : ∀ f, Lib.countFrom [45] f (b :: l) = Lib.countFrom [45] f l
  | 0 => rfl
  | f + 1 => by
    by_cases hi : (Lib.index l [45] == -1) = true
    · have hb : (Lib.index (b :: l) [45] == -1) = true := by rw [idx_cons b l h, if_pos hi]; rfl
      rw [Lib.countFrom, if_pos hb, Lib.countFrom, if_pos hi]
    · obtain ⟨i, e⟩ := idx_nat l hi
      have eb : Lib.index (b :: l) [45] = ((i + 1 : Nat) : Int) := by rw [idx_cons b l h, if_neg hi, e]; omega
      have hb : ¬ (Lib.index (b :: l) [45] == -1) = true := by rw [eb]; intro e2; have := beq_iff_eq.1 e2; omega
      rw [Lib.countFrom, if_neg hb, Lib.countFrom, if_neg hi, eb, e]
      rfl
theorem cnt_hit (l : List UInt8) (f : Nat) : Lib.countFrom [45] (f + 1) (45 :: l) = 1 + Lib.countFrom [45] f l := by
  rw [Lib.countFrom, idx_hit, if_neg (by decide)]
  rfl
theorem rep_all : ∀ (l : List UInt8) (f : Nat), l.length < f → Lib.replaceK [45] [] (Lib.countFrom [45] f l) l = nd l
  | [], f, h => by
    cases f with
    | zero => exact absurd h (by simp)
    | succ f => rfl
  | b :: l, f, h => by
    by_cases hb : b = 45
    · subst hb
      cases f with
      | zero => exact absurd h (by simp)
      | succ f =>
        rw [cnt_hit, Nat.add_comm, repK_hit, rep_all l f (by simp at h; omega)]
        rfl
    · rw [cnt_cons b l hb, repK_cons b l hb, rep_all l f (by simp at h; omega)]
      unfold nd
      rw [List.filter_cons, if_pos (by simpa using hb)]
theorem replaceAll_nd (l : List UInt8) : Lib.replaceAll l [45] [] = nd l := by
  unfold Lib.replaceAll Lib.replace Lib.replaceNum
  rw [if_neg (by decide), if_pos (.inl (by decide))]
  exact rep_all l (l.length + 1) (by omega)
theorem rep_f (l : List UInt8) (hn : l.length ≤ 1048576) : strings_ReplaceAll.f (B l) (⟨#[45]⟩ : ByteArray) (⟨#[]⟩ : ByteArray) = some (B (nd l)) := by
  unfold strings_ReplaceAll.f
  have h0 : (⟨#[]⟩ : ByteArray).size = 0 := rfl
  have h1 : (⟨#[45]⟩ : ByteArray).size = 1 := rfl
  rw [if_pos ⟨by rw [size_B]; omega, by rw [h1]; omega, by rw [h0, size_B]; omega⟩, data_B]
  have e1 : (⟨#[45]⟩ : ByteArray).data.toList = [45] := rfl
  have e2 : (⟨#[]⟩ : ByteArray).data.toList = [] := rfl
  rw [e1, e2, replaceAll_nd]
  rfl
theorem nd_length (l : List UInt8) : (nd l).length ≤ l.length := List.length_filter_le _ _
theorem prefix_f (l : List UInt8) : strings_HasPrefix.f (B l) (⟨#[45]⟩ : ByteArray) = some (decide (l.head? = some 45)) := by
  have h1 : (⟨#[45]⟩ : ByteArray).size = 1 := rfl
  unfold strings_HasPrefix.f stringslite_HasPrefix.f
  rw [h1, size_B]
  cases l with
  | nil => rw [if_neg (by simp)]; rfl
  | cons b l =>
    rw [if_pos (by simp; omega), if_pos (by decide), if_pos (by simp; omega), show (((1 : Nat) : Int)).toNat = 1 from rfl, extract_B, toList_B, Option.bind_some]
    have : (⟨#[45]⟩ : ByteArray).toList = [45] := toList_B [45]
    rw [this]
    simp
    by_cases h : b = 45 <;> simp [h]
theorem suffix_f (l : List UInt8) (hn : l.length ≤ 1048576) : strings_HasSuffix.f (B l) (⟨#[45]⟩ : ByteArray) = some (decide (l.getLast? = some 45)) := by
  have h1 : (⟨#[45]⟩ : ByteArray).size = 1 := rfl
  unfold strings_HasSuffix.f stringslite_HasSuffix.f
  rw [h1, size_B]
  by_cases hl : l = []
  · subst hl; rw [if_neg (by simp)]; rfl
  · have hp : 0 < l.length := List.length_pos_iff.2 hl
    have e : wrap64 ((l.length : Int) - ((1 : Nat) : Int)) = ((l.length - 1 : Nat) : Int) := by rw [w64 (by omega) (by omega)]; omega
    rw [if_pos (by omega), e, if_pos (by omega), if_pos (by omega), Int.toNat_natCast, extract_B, toList_B, Option.bind_some]
    have : (⟨#[45]⟩ : ByteArray).toList = [45] := toList_B [45]
    rw [this]
    have e2 : (l.drop (l.length - 1)).take (l.length - (l.length - 1)) = [l.getLast hl] := by
      rw [List.drop_eq_getElem_cons (by omega), show l.length - (l.length - 1) = 1 by omega, List.getLast_eq_getElem]
      rfl
    rw [e2, List.getLast?_eq_some_getLast hl]
    by_cases h : l.getLast hl = 45 <;> simp [h]
theorem occ_iff (l : List UInt8) (i : Nat) : Lib.occAt l [45, 45] i = true ↔ l[i]? = some 45 ∧ l[i + 1]? = some 45 := by
  unfold Lib.occAt
  rw [show l[i + 1]? = (l.drop i)[1]? by simp, show l[i]? = (l.drop i)[0]? by simp]
  generalize l.drop i = m
  match m with
  | [] => simp
  | [a] => simp
  | a :: b :: m => simp; constructor <;> (rintro ⟨h1, h2⟩; exact ⟨h1.symm, h2.symm⟩)
theorem contains_iff (l : List UInt8) : Lib.contains l [45, 45] = true ↔ ∃ i : Nat, l[i]? = some (45 : UInt8) ∧ l[i + 1]? = some (45 : UInt8) := by
  unfold Lib.contains
  rw [decide_eq_true_eq]
  rcases Lib.index_spec l [45, 45] with ⟨e, h⟩ | ⟨i, e, hi, ho, _⟩
  · rw [e]
    refine ⟨fun h' => absurd h' (by decide), fun ⟨i, h1, h2⟩ => ?_⟩
    have hl : i < l.length := by
      rcases Nat.lt_or_ge i l.length with h' | h'
      · exact h'
      · rw [List.getElem?_eq_none h'] at h1; cases h1
    have := h i (by omega)
    rw [(occ_iff l i).2 ⟨h1, h2⟩] at this
    cases this
  · rw [e]
    exact ⟨fun _ => ⟨i, (occ_iff l i).1 ho⟩, fun _ => by omega⟩
/-- Exceptions, as hyphen.Exception asks. -/
def excB (l : List UInt8) : Bool :=
  (nd l).all smallB && (decide (1 ≤ (nd l).length ∧ (nd l).length ≤ 60) && (!decide (l.head? = some 45) && (!decide (l.getLast? = some 45) && !Lib.contains l [45, 45])))
theorem low_same_iff (c : UInt8) : ((smallB c || greatB c) = true ∧ lowB c = c) ↔ smallB c = true := by
  constructor
  · rintro ⟨h, e⟩
    rw [← low_letter, e] at h
    exact h
  · intro h
    refine ⟨by rw [h]; rfl, ?_⟩
    unfold lowB
    rw [if_neg (by have := of_decide_eq_true h; omega)]
theorem low_all (m : List UInt8) : ((m.all fun c => smallB c || greatB c) = true ∧ lowS m = m) ↔ m.all smallB = true := by
  unfold lowS
  induction m with
  | nil => simp
  | cons b m ih =>
    rw [List.all_cons, List.all_cons, List.map_cons, List.cons.injEq, Bool.and_eq_true, Bool.and_eq_true, ← ih, ← low_same_iff b]
    constructor
    · rintro ⟨⟨h1, h2⟩, h3, h4⟩; exact ⟨⟨h1, h3⟩, h2, h4⟩
    · rintro ⟨⟨h1, h3⟩, h2, h4⟩; exact ⟨⟨h1, h2⟩, h3, h4⟩
theorem exc_f (l : List UInt8) (hn : l.length ≤ 1048576) : hyphen_Exception.f (B l) = some (excB l) := by
  have hl := nd_length l
  unfold hyphen_Exception.f excB
  rw [rep_f l hn, Option.bind_some, low_f (nd l) (by omega)]
  have hc : strings_Contains.f (B l) (⟨#[45, 45]⟩ : ByteArray) = some (Lib.contains l [45, 45]) := by
    unfold strings_Contains.f
    rw [if_pos (by rw [size_B]; omega), data_B]
  by_cases h1 : ((nd l).all fun c => smallB c || greatB c) = true
  · rw [if_pos h1, Option.bind_some]
    by_cases h2 : 1 ≤ (nd l).length ∧ (nd l).length ≤ 60
    · rw [decide_eq_true h2, if_pos rfl, Option.bind_some, toList_B, toList_B]
      by_cases h3 : lowS (nd l) = nd l
      · rw [if_pos h3, (low_all (nd l)).1 ⟨h1, h3⟩, prefix_f, Option.bind_some]
        by_cases h4 : l.head? = some 45
        · rw [decide_eq_true h4, if_pos rfl]; rfl
        · rw [decide_eq_false h4, if_neg Bool.false_ne_true, suffix_f l hn, Option.bind_some]
          by_cases h5 : l.getLast? = some 45
          · rw [decide_eq_true h5, if_pos rfl]; rfl
          · rw [decide_eq_false h5, if_neg Bool.false_ne_true, hc]; rfl
      · have h6 : (nd l).all smallB = false := Bool.eq_false_iff.2 fun h => h3 ((low_all (nd l)).2 h).2
        rw [if_neg h3, h6] <;> rfl
    · rw [decide_eq_false h2, if_neg Bool.false_ne_true, Bool.false_and, Bool.and_false]
  · have h6 : (nd l).all smallB = false := Bool.eq_false_iff.2 fun h => h1 ((low_all (nd l)).2 h).1
    rw [if_neg h1, Option.bind_some, if_neg Bool.false_ne_true, h6] <;> rfl
theorem eq45 (c : UInt8) : ((c.toNat : Int) = 45) ↔ c = 45 := by
  constructor
  · intro h
    have e : (45 : UInt8).toNat = 45 := rfl
    have : c.toNat = (45 : UInt8).toNat := by omega
    exact UInt8.toNat_inj.1 this
  · intro h; subst h; rfl
end Go.Proofs.YtmjglgbkigjfkaaDoor.Pure

namespace Go.Proofs.YtmjglgbkigjfkaaDoor.Pure
open Go.RowKit Go.Proofs.YtmjglgbkigjfkaaDoor Go.Proofs.YtmjglgbkigjfkaaDoor.Xa Go.Proofs.YtmjglgbkigjfkaaDoorW.PrintWords Go.Proofs.YtmjglgbkigjfkaaDoorW.PrintLast Go.Proofs.YtmjglgbkigjfkaaDoorW.PrintMore
def mkS (x : List UInt8 × List Int) : S64 := ⟨B x.1, x.2⟩
/-- Texts that are not too long. -/
def Short (ps : List (List UInt8)) : Prop := ps.length ≤ 1048576 ∧ ∀ p ∈ ps, p.length ≤ 1048576
theorem rdOf_at (ps : List (List UInt8)) (i : Nat) (h : i < ps.length) : rdOf ByteArray.empty (ps.map B) (i : Int) = B ps[i] := by
  unfold rdOf
  rw [Int.toNat_natCast, List.getD_eq_getElem?_getD, List.getElem?_map, List.getElem?_eq_getElem h]
  rfl
theorem drop_at {α : Type} (ps : List α) (i : Nat) (h : i < ps.length) : ps.drop i = ps[i] :: ps.drop (i + 1) := List.drop_eq_getElem_cons h
def patsOf : List (List UInt8) → Option (List (List UInt8 × List Int))
  | [] => some []
  | p :: ps => match patOf p, patsOf ps with
    | some x, some q => some (x :: q)
    | _, _ => none
theorem parsed_l (ps : List (List UInt8)) (hp : Short ps) : ∀ (d i : Nat) (acc : List (List UInt8 × List Int)), i + d = ps.length → acc.length ≤ i →
    Ev (fun k => hyphen_parsed.l0 k (acc.map mkS) (ps.map B) (ps.length : Int) (i : Int)) (match patsOf (ps.drop i) with | none => ([], 4) | some q => ((acc ++ q).map mkS, 0))
  | 0, i, acc, hi, ha => by
    rw [List.drop_of_length_le (by omega)]
    refine Ev.step (f := fun _ => some _) (fun k => ?_) (Ev.now _)
    rw [hyphen_parsed.l0, if_neg (by omega)]
    simp [patsOf]
  | d + 1, i, acc, hi, ha => by
    have hlt : i < ps.length := by omega
    have hn := hp.1
    have hpi := hp.2 _ (List.getElem_mem hlt)
    obtain ⟨r, hr, ht⟩ := read_t ps[i] hpi
    rw [drop_at ps i hlt, patsOf]
    have hhead : ∀ k, hyphen_parsed.l0 (k + 1) (acc.map mkS) (ps.map B) (ps.length : Int) (i : Int) = (hyphen_read.f k (B ps[i])).bind fun bt126 => (if bt126.2.2 = true then (if (acc.map mkS).length < 3518437208883 then (hyphen_parsed.l0 k ((acc.map mkS) ++ [(⟨bt126.1, bt126.2.1⟩ : S64)]) (ps.map B) (ps.length : Int) ((i + 1 : Nat) : Int)) else (none)) else (some (([] : List (S64)), 4))) := by
      intro k
      rw [hyphen_parsed.l0, if_pos (by omega), if_pos (by omega), if_pos (by rw [List.length_map]; omega), rdOf_at ps i hlt, w64s hlt (by omega)]
    refine Ev.step hhead (Ev.bind hr ?_)
    cases ho : patOf ps[i] with
    | none =>
      rw [ho] at ht
      unfold Told at ht
      dsimp only at ht ⊢
      rw [ht]
      exact Ev.congr (fun k => if_neg Bool.false_ne_true) (Ev.now _)
    | some x =>
      obtain ⟨t, v⟩ := x
      rw [ho] at ht
      unfold Told at ht
      dsimp only at ht
      subst ht
      have ih := parsed_l ps hp d (i + 1) (acc ++ [(t, v)]) (by omega) (by rw [List.length_append, List.length_singleton]; omega)
      have e : (acc ++ [(t, v)]).map mkS = acc.map mkS ++ [(⟨B t, v⟩ : S64)] := by rw [List.map_append]; rfl
      rw [e] at ih
      have e2 : (match patsOf (ps.drop (i + 1)) with | none => (([] : List S64), (4 : Int)) | some q => (((acc ++ [(t, v)]) ++ q).map mkS, 0)) = (match (match some (t, v), patsOf (ps.drop (i + 1)) with | some x, some q => some (x :: q) | _, _ => none) with | none => ([], 4) | some q => ((acc ++ q).map mkS, 0)) := by
        cases patsOf (ps.drop (i + 1)) with
        | none => rfl
        | some q => simp
      rw [← e2]
      refine Ev.congr (fun k => ?_) ih
      dsimp only
      rw [if_pos rfl, if_pos (by rw [List.length_map]; omega)]
theorem parsed_f (ps : List (List UInt8)) (hp : Short ps) : Ev (fun k => hyphen_parsed.f k (ps.map B)) (if ps.length > 2000 then ([], 2) else match patsOf ps with | none => ([], 4) | some q => (q.map mkS, 0)) := by
  by_cases h : ps.length > 2000
  · rw [if_pos h]
    refine Ev.congr (fun k => ?_) (Ev.now _)
    rw [hyphen_parsed.f, if_pos (by rw [List.length_map]; omega)]
  · rw [if_neg h]
    refine Ev.congr (fun k => ?_) (parsed_l ps hp ps.length 0 [] (by omega) (by simp))
    rw [hyphen_parsed.f, if_neg (by rw [List.length_map]; omega), List.length_map]
    rfl
def chk (ps xs : List (List UInt8)) : Int := if ps.length > 2000 ∨ xs.length > 2000 then 2 else if (patsOf ps).isSome = true then (if xs.all excB = true then 0 else 4) else 4
end Go.Proofs.YtmjglgbkigjfkaaDoor.Pure

namespace Go.Proofs.YtmjglgbkigjfkaaDoor.Pure
open Go.RowKit Go.Proofs.YtmjglgbkigjfkaaDoor Go.Proofs.YtmjglgbkigjfkaaDoor.Xa Go.Proofs.YtmjglgbkigjfkaaDoorW.PrintWords Go.Proofs.YtmjglgbkigjfkaaDoorW.PrintLast Go.Proofs.YtmjglgbkigjfkaaDoorW.PrintMore
/-- The values v laid from place a + i on, where they are greater. -/
def putV : List Int → Nat → Nat → List Int → List Int
  | all, _, _, [] => all
  | all, a, i, x :: v => putV (all.set (a + i) (mx (all.getD (a + i) 0) x)) a (i + 1) v
theorem putV_length : ∀ (v : List Int) (all : List Int) (a i : Nat), (putV all a i v).length = all.length
  | [], _, _, _ => rfl
  | x :: v, all, a, i => by rw [putV, putV_length v]; exact List.length_set
/-- A pattern laid at each place from a on where it stands; d: the places that are left. -/
def valAt (fr t : List UInt8) (v : List Int) : Nat → Nat → List Int → List Int
  | 0, _, all => all
  | d + 1, a, all => valAt fr t v d (a + 1) (if (fr.drop a).take t.length = t then putV all a 0 v else all)
theorem valAt_length (fr t : List UInt8) (v : List Int) : ∀ (d a : Nat) (all : List Int), (valAt fr t v d a all).length = all.length
  | 0, _, _ => rfl
  | d + 1, a, all => by
    rw [valAt, valAt_length fr t v d]
    split
    · exact putV_length _ _ _ _
    · rfl
def valsAll (fr : List UInt8) : List (List UInt8 × List Int) → List Int → List Int
  | [], all => all
  | x :: q, all => valsAll fr q (valAt fr x.1 x.2 (fr.length + 1 - x.1.length) 0 all)
theorem valsAll_length (fr : List UInt8) : ∀ (q : List (List UInt8 × List Int)) (all : List Int), (valsAll fr q all).length = all.length
  | [], _ => rfl
  | x :: q, all => by rw [valsAll, valsAll_length fr q, valAt_length]
def frame (w : List UInt8) : List UInt8 := 46 :: (w ++ [46])
theorem frame_length (w : List UInt8) : (frame w).length = w.length + 2 := by simp [frame]
def valS (w : List UInt8) (q : List (List UInt8 × List Int)) : List Int := ((valsAll (frame w) q (List.replicate (w.length + 3) 0)).take (w.length + 2)).drop 1
/-- What a pattern that was read is like. -/
def Fit (x : List UInt8 × List Int) : Prop := x.2.length = x.1.length + 1 ∧ x.1.length ≤ 1048576
theorem mul_rd (l : List Int) (n : Nat) : rd l (n : Int) = l.getD n 0 := by unfold rd; rw [Int.toNat_natCast]
section
variable (w fr : List UInt8) (hfr : fr.length ≤ 1048576)
include hfr
omit hfr in
theorem vals_l2 (t : List UInt8) (v : List Int) (S : List S64) (n idx : Int) (a : Nat) (r : List Int) : ∀ (d i : Nat) (all : List Int), i + d = v.length → a + v.length ≤ all.length → all.length ≤ 1048577 →
    Ev (fun k => hyphen_values.l1 k (B w) (B fr) (putV all a i (v.drop i)) ((a + 1 : Nat) : Int) S n idx (B t) v) r → Ev (fun k => hyphen_values.l2 k (B w) (B fr) all (a : Int) S n idx v (v.length : Int) (i : Int) (B t) v) r
  | 0, i, all, hi, ha, hl, h => by
    rw [List.drop_of_length_le (by omega)] at h
    refine Ev.step (fun k => ?_) h
    rw [hyphen_values.l2, if_neg (by omega), w64 (x := (a : Int) + 1) (by omega) (by omega)]
    rfl
  | d + 1, i, all, hi, ha, hl, h => by
    have hlt : i < v.length := by omega
    rw [drop_at v i hlt, putV] at h
    refine Ev.step (fun k => ?_) (vals_l2 t v S n idx a r d (i + 1) _ (by omega) (by rw [List.length_set]; exact ha) (by rw [List.length_set]; exact hl) h)
    have e : wrap64 ((a : Int) + (i : Int)) = ((a + i : Nat) : Int) := by rw [w64 (by omega) (by omega)]; omega
    have e2 : v.getD i 0 = v[i] := by rw [List.getD_eq_getElem?_getD, List.getElem?_eq_getElem hlt]; rfl
    rw [hyphen_values.l2, if_pos (by omega), if_pos (by omega), if_pos (by omega), e, if_pos (by omega), if_pos (by omega), Int.toNat_natCast, mul_rd, mul_rd, e2, w64 (x := (i : Int) + 1) (by omega) (by omega)]
    rfl
theorem vals_l1 (t : List UInt8) (v : List Int) (S : List S64) (n : Int) (idx : Nat) (r : List Int) (hx : Fit (t, v)) (hi : idx ≤ 1048576) : ∀ (d a : Nat) (all : List Int), d = fr.length + 1 - t.length - a → a ≤ fr.length + 1 → all.length = fr.length + 1 →
    Ev (fun k => hyphen_values.l0 k (B w) (B fr) (valAt fr t v d a all) S n ((idx + 1 : Nat) : Int)) r → Ev (fun k => hyphen_values.l1 k (B w) (B fr) all (a : Int) S n (idx : Int) (B t) v) r
  | 0, a, all, hd, ha, hl, h => by
    have h1 := hx.1
    have h2 := hx.2
    dsimp only at h1 h2
    refine Ev.step (fun k => ?_) h
    rw [hyphen_values.l1, size_B, size_B, w64 (x := (a : Int) + (t.length : Int)) (by omega) (by omega), if_neg (by omega), w64 (x := (idx : Int) + 1) (by omega) (by omega)]
    rfl
  | d + 1, a, all, hd, ha, hl, h => by
    have h1 := hx.1
    have h2 := hx.2
    dsimp only at h1 h2
    rw [valAt] at h
    have e : wrap64 ((a : Int) + (t.length : Int)) = ((a + t.length : Nat) : Int) := by rw [w64 (by omega) (by omega)]; omega
    have ex : (B fr).extract ((a : Int)).toNat (((a + t.length : Nat) : Int)).toNat = B ((fr.drop a).take t.length) := by
      rw [show ((a : Int)).toNat = a from Int.toNat_natCast a, show (((a + t.length : Nat) : Int)).toNat = a + t.length from Int.toNat_natCast _, extract_B, show a + t.length - a = t.length by omega]
    by_cases hm : (fr.drop a).take t.length = t
    · rw [if_pos hm] at h
      have ih := vals_l1 t v S n idx r hx hi d (a + 1) (putV all a 0 v) (by omega) (by omega) (by rw [putV_length]; exact hl) h
      have h3 := vals_l2 w fr t v S n (idx : Int) a r v.length 0 all (by omega) (by omega) (by omega) ih
      refine Ev.step (fun k => ?_) h3
      rw [hyphen_values.l1, size_B, size_B, e, if_pos (by omega), if_pos (by omega), if_pos (by omega), ex, toList_B, toList_B, if_pos hm]
      rfl
    · rw [if_neg hm] at h
      have ih := vals_l1 t v S n idx r hx hi d (a + 1) all (by omega) (by omega) hl h
      refine Ev.step (fun k => ?_) ih
      rw [hyphen_values.l1, size_B, size_B, e, if_pos (by omega), if_pos (by omega), if_pos (by omega), ex, toList_B, toList_B, if_neg hm, w64 (x := (a : Int) + 1) (by omega) (by omega)]
      rfl
theorem vals_l0 (q : List (List UInt8 × List Int)) (hq : ∀ x ∈ q, Fit x) (hn : q.length ≤ 1048576) (hw : fr.length = w.length + 2) : ∀ (d i : Nat) (all : List Int), i + d = q.length → all.length = fr.length + 1 →
    Ev (fun k => hyphen_values.l0 k (B w) (B fr) all (q.map mkS) (q.length : Int) (i : Int)) (((valsAll fr (q.drop i) all).take (w.length + 2)).drop 1)
  | 0, i, all, hi, hl => by
    rw [show q.drop i = [] from List.drop_of_length_le (by omega)]
    refine Ev.step (f := fun _ => some _) (fun k => ?_) (Ev.now _)
    have e : wrap64 (((B w).size : Int) + 2) = ((w.length + 2 : Nat) : Int) := by rw [size_B, w64 (by omega) (by omega)]; omega
    rw [hyphen_values.l0, if_neg (by omega), e, if_pos (by omega), if_pos (by omega), Int.toNat_natCast]
    rfl
  | d + 1, i, all, hi, hl => by
    have hlt : i < q.length := by omega
    have hx := hq _ (List.getElem_mem hlt)
    obtain ⟨⟨t, v⟩, he⟩ : ∃ x, q[i] = x := ⟨_, rfl⟩
    rw [he] at hx
    rw [drop_at q i hlt, he, valsAll]
    have ih := vals_l0 q hq hn hw d (i + 1) (valAt fr t v (fr.length + 1 - t.length) 0 all) (by omega) (by rw [valAt_length]; exact hl)
    have h3 := vals_l1 w fr hfr t v (q.map mkS) (q.length : Int) i _ hx (by omega) (fr.length + 1 - t.length) 0 all (by omega) (by omega) hl ih
    refine Ev.step (fun k => ?_) h3
    have er : rd_T64 (q.map mkS) (i : Int) = mkS (t, v) := by
      unfold rd_T64
      rw [Int.toNat_natCast, List.getD_eq_getElem?_getD, List.getElem?_map, List.getElem?_eq_getElem hlt, he]
      rfl
    rw [hyphen_values.l0, if_pos (by omega), if_pos (by omega), if_pos (by rw [List.length_map]; omega), er]
    rfl
end
theorem frame_B (w : List UInt8) : ((⟨#[46]⟩ : ByteArray) ++ B w) ++ (⟨#[46]⟩ : ByteArray) = B (frame w) := by
  have e : (⟨#[46]⟩ : ByteArray) = B [46] := rfl
  rw [e, append_B, append_B]
  rfl
theorem vals_head {α : Type} (w : List UInt8) (hw : w.length ≤ 1000000) (C : ByteArray → List Int → Option α) :
    (if 1 + (B w).size ≤ 9223372036854775807 then (if ((⟨#[46]⟩ : ByteArray) ++ B w).size + 1 ≤ 9223372036854775807 then (if 0 ≤ (wrap64 (((((⟨#[46]⟩ : ByteArray) ++ B w) ++ (⟨#[46]⟩ : ByteArray)).size : Int) + 1)) then (if (wrap64 (((((⟨#[46]⟩ : ByteArray) ++ B w) ++ (⟨#[46]⟩ : ByteArray)).size : Int) + 1) : Int).toNat ≤ 35184372088832 then (C (((⟨#[46]⟩ : ByteArray) ++ B w) ++ (⟨#[46]⟩ : ByteArray)) (List.replicate (wrap64 (((((⟨#[46]⟩ : ByteArray) ++ B w) ++ (⟨#[46]⟩ : ByteArray)).size : Int) + 1) : Int).toNat 0)) else (none)) else (none)) else (none)) else (none)) = C (B (frame w)) (List.replicate (w.length + 3) 0) := by
  have e1 : ((⟨#[46]⟩ : ByteArray) ++ B w).size = w.length + 1 := by
    have e : (⟨#[46]⟩ : ByteArray) = B [46] := rfl
    rw [e, append_B, size_B]; simp
  have e2 : wrap64 (((B (frame w)).size : Int) + 1) = ((w.length + 3 : Nat) : Int) := by
    rw [size_B, frame_length, w64 (by omega) (by omega)]; omega
  rw [frame_B, e1, e2, if_pos (by rw [size_B]; omega), if_pos (by omega), if_pos (by omega), if_pos (by omega), Int.toNat_natCast]
theorem values_f (w : List UInt8) (hw : w.length ≤ 1000000) (q : List (List UInt8 × List Int)) (hq : ∀ x ∈ q, Fit x) (hn : q.length ≤ 1048576) :
    Ev (fun k => hyphen_values.f k (B w) (q.map mkS)) (valS w q) := by
  have h := vals_l0 w (frame w) (by rw [frame_length]; omega) q hq hn (frame_length w) q.length 0 (List.replicate (w.length + 3) 0) (by omega) (by rw [List.length_replicate, frame_length])
  refine Ev.congr (fun k => ?_) h
  rw [hyphen_values.f, vals_head w hw (fun x y => hyphen_values.l0 k (B w) x y (q.map mkS) ((q.map mkS).length : Int) 0), List.length_map]
  rfl
theorem patS_fit (l : List UInt8) : ∀ (d i m g : Nat) (t : List UInt8) (v : List Int) (m' : Nat) (t' : List UInt8) (v' : List Int), v.length = t.length → patS l d i m g t v = some (m', t', v') → v'.length = t'.length + 1 ∧ t'.length ≤ t.length + d
  | 0, i, m, g, t, v, m', t', v', hv, h => by
    unfold patS at h
    injection h with h
    injection h with _ h
    injection h with h1 h2
    subst h1 h2
    rw [List.length_append, List.length_singleton]
    exact ⟨by omega, by omega⟩
  | d + 1, i, m, g, t, v, m', t', v', hv, h => by
    unfold patS at h
    have hs : ∀ {c : UInt8} {x : Int}, (v ++ [x]).length = (t ++ [c]).length := by intro c x; rw [List.length_append, List.length_append, List.length_singleton, List.length_singleton, hv]
    split at h
    · split at h
      · have := patS_fit l d _ _ _ _ _ _ _ _ hv h; exact ⟨this.1, by omega⟩
      · cases h
    · split at h
      · have := patS_fit l d _ _ _ _ _ _ _ _ hs h
        rw [List.length_append, List.length_singleton] at this
        exact ⟨this.1, by omega⟩
      · split at h
        · have := patS_fit l d _ _ _ _ _ _ _ _ hs h
          rw [List.length_append, List.length_singleton] at this
          exact ⟨this.1, by omega⟩
        · cases h
theorem patOf_fit (l : List UInt8) (hl : l.length ≤ 1048576) (x : List UInt8 × List Int) (h : patOf l = some x) : Fit x := by
  unfold patOf at h
  split at h
  · cases h
  · rename_i m t v e
    split at h
    · injection h with h
      subst h
      have := patS_fit l _ _ _ _ _ _ _ _ _ rfl e
      exact ⟨this.1, by have := this.2; simp at this; show t.length ≤ _; omega⟩
    · cases h
theorem patsOf_fit : ∀ (ps : List (List UInt8)), (∀ p ∈ ps, p.length ≤ 1048576) → ∀ q, patsOf ps = some q → (∀ x ∈ q, Fit x) ∧ q.length = ps.length
  | [], _, q, h => by
    unfold patsOf at h
    injection h with h
    subst h
    exact ⟨fun x hx => (by cases hx), rfl⟩
  | p :: ps, hp, q, h => by
    unfold patsOf at h
    split at h
    · rename_i x q' e1 e2
      injection h with h
      subst h
      obtain ⟨h1, h2⟩ := patsOf_fit ps (fun p hp' => hp p (List.mem_cons_of_mem _ hp')) q' e2
      refine ⟨fun y hy => ?_, by rw [List.length_cons, List.length_cons, h2]⟩
      rcases List.mem_cons.1 hy with e | hy
      · subst e; exact patOf_fit p (hp p (List.mem_cons_self ..)) _ e1
      · exact h1 y hy
    · cases h
/-! the reference's -/
section
variable (w fr : List UInt8) (hfr : fr.length ≤ 1048576)
include hfr
end
theorem valS_length (w : List UInt8) (q : List (List UInt8 × List Int)) : (valS w q).length = w.length + 1 := by
  unfold valS
  rw [List.length_drop, List.length_take, valsAll_length, List.length_replicate]
  omega
end Go.Proofs.YtmjglgbkigjfkaaDoor.Pure

namespace Go.Proofs.YtmjglgbkigjfkaaDoor.Pure
open Go.RowKit Go.Proofs.YtmjglgbkigjfkaaDoor Go.Proofs.YtmjglgbkigjfkaaDoor.Xa Go.Proofs.YtmjglgbkigjfkaaDoorW.PrintWords Go.Proofs.YtmjglgbkigjfkaaDoorW.PrintLast Go.Proofs.YtmjglgbkigjfkaaDoorW.PrintMore
def valuesR (w : List UInt8) (ps : List (List UInt8)) : List Int × Int :=
  if ps.length > 2000 then ([], 2) else match patsOf ps with
    | none => ([], 4)
    | some q => if wordS w = true then (valS (lowS w) q, 0) else ([], 1)
theorem low_ok (l : List UInt8) (h : l.length ≤ 140737488351232) : ∃ t, hyphen_low.f (B l) = some (t, wordS l) ∧ (wordS l = true → t = B (lowS l)) := by
  rw [low_f l h]
  unfold wordS
  by_cases h1 : (l.all fun c => smallB c || greatB c) = true
  · rw [if_pos h1, h1, Bool.true_and]; exact ⟨_, rfl, fun _ => rfl⟩
  · rw [if_neg h1, Bool.eq_false_iff.2 h1, Bool.false_and]; exact ⟨_, rfl, fun h => (by cases h)⟩
theorem lowS_length (l : List UInt8) : (lowS l).length = l.length := List.length_map _
theorem word_short {w : List UInt8} (h : wordS w = true) : 1 ≤ w.length ∧ w.length ≤ 60 := by
  unfold wordS at h
  rw [Bool.and_eq_true, decide_eq_true_eq] at h
  exact h.2
theorem Values_f (w : List UInt8) (hw : w.length ≤ 1048576) (ps : List (List UInt8)) (hp : Short ps) : Ev (fun k => hyphen_Values.f k (B w) (ps.map B)) (valuesR w ps) := by
  unfold valuesR
  obtain ⟨t, hl, ht⟩ := low_ok w (by omega)
  refine Ev.bind (parsed_f ps hp) ?_
  by_cases h1 : ps.length > 2000
  · rw [if_pos h1, if_pos h1]
    exact Ev.congr (fun k => if_neg (by decide)) (Ev.now _)
  · rw [if_neg h1, if_neg h1]
    cases hq : patsOf ps with
    | none => exact Ev.congr (fun k => if_neg (by decide)) (Ev.now _)
    | some q =>
      obtain ⟨hf, hl2⟩ := patsOf_fit ps hp.2 q hq
      dsimp only
      refine Ev.congr (fun k => if_pos rfl) ?_
      by_cases hwd : wordS w = true
      · rw [if_pos hwd]
        have hs := word_short hwd
        refine Ev.congr (f := fun k => (hyphen_values.f k (B (lowS w)) (q.map mkS)).bind fun t216 => some (t216, 0)) (fun k => ?_) (Ev.bind (f := fun _ (x : List Int) => some (x, (0 : Int))) (values_f (lowS w) (by rw [lowS_length]; omega) q hf (by have := hp.1; omega)) (Ev.now _))
        rw [hl, Option.bind_some]
        dsimp only
        rw [if_pos hwd, ht hwd]
      · rw [if_neg hwd]
        refine Ev.congr (fun k => ?_) (Ev.now _)
        rw [hl, Option.bind_some]
        dsimp only
        rw [if_neg hwd]
/-! exceptions -/
theorem index_l (xs : List (List UInt8)) (hx : Short xs) : ∀ (d i : Nat), i + d = xs.length →
    ∃ r, Ev (fun k => slices_IndexFunc_string_string.l0 k (xs.map B) (xs.length : Int) (i : Int)) r ∧ decide (r ≥ 0) = !((xs.drop i).all excB)
  | 0, i, hi => by
    refine ⟨-1, Ev.step (f := fun _ => some _) (fun k => ?_) (Ev.now _), ?_⟩
    · rw [slices_IndexFunc_string_string.l0, if_neg (by omega)]
    · rw [List.drop_of_length_le (by omega)]; rfl
  | d + 1, i, hi => by
    have hlt : i < xs.length := by omega
    have hn := hx.1
    have he := exc_f xs[i] (hx.2 _ (List.getElem_mem hlt))
    have hp : hyphen_Points_1.f (B xs[i]) = some (!excB xs[i]) := by unfold hyphen_Points_1.f; rw [he]; rfl
    have hhead : ∀ k, slices_IndexFunc_string_string.l0 (k + 1) (xs.map B) (xs.length : Int) (i : Int) = if (!excB xs[i]) = true then some (i : Int) else slices_IndexFunc_string_string.l0 k (xs.map B) (xs.length : Int) ((i + 1 : Nat) : Int) := by
      intro k
      rw [slices_IndexFunc_string_string.l0, if_pos (by omega), if_pos (by omega), if_pos (by rw [List.length_map]; omega), rdOf_at xs i hlt, hp, Option.bind_some, w64s hlt (by omega)]
    rw [drop_at xs i hlt, List.all_cons]
    cases hb : excB xs[i] with
    | true =>
      obtain ⟨r, h1, h2⟩ := index_l xs hx d (i + 1) (by omega)
      refine ⟨r, Ev.step (fun k => ?_) h1, by rw [h2, Bool.true_and]⟩
      rw [hhead, hb, if_neg (by decide)]
    | false =>
      refine ⟨(i : Int), Ev.step (f := fun _ => some _) (fun k => ?_) (Ev.now _), ?_⟩
      · rw [hhead, hb, if_pos (by decide)]
      · rw [Bool.false_and]; exact decide_eq_true (by omega)
theorem containsFunc_f (xs : List (List UInt8)) (hx : Short xs) : Ev (fun k => slices_ContainsFunc_string_string.f k (xs.map B)) (!(xs.all excB)) := by
  obtain ⟨r, h1, h2⟩ := index_l xs hx xs.length 0 (by omega)
  rw [List.drop_zero] at h2
  rw [← h2]
  refine Ev.bind (f := fun _ (t : Int) => some (decide (t ≥ 0))) (Ev.congr (fun k => ?_) h1) (Ev.now _)
  rw [slices_IndexFunc_string_string.f, List.length_map]
  rfl
/-- The places of a text's dashes, in letters; n letters stand ahead. -/
def dp : List UInt8 → Nat → List Nat
  | [], _ => []
  | c :: l, n => if c = 45 then n :: dp l n else dp l (n + 1)
theorem nd_cons (c : UInt8) (l : List UInt8) : nd (c :: l) = if c = 45 then nd l else c :: nd l := by
  unfold nd
  rw [List.filter_cons]
  by_cases h : c = 45
  · rw [if_pos h, if_neg (by simp [h])]
  · rw [if_neg h, if_pos (by simpa using h)]
/-- An exception's values: a 1 at each dash. -/
def mk : List UInt8 → Nat → List Int → List Int
  | [], _, all => all
  | c :: l, n, all => if c = 45 then mk l n (all.set n 1) else mk l (n + 1) all
theorem mk_length : ∀ (l : List UInt8) (n : Nat) (all : List Int), (mk l n all).length = all.length
  | [], _, _ => rfl
  | c :: l, n, all => by
    rw [mk]
    split
    · rw [mk_length l, List.length_set]
    · exact mk_length l _ _
theorem mk_at : ∀ (l : List UInt8) (n : Nat) (all : List Int) (i : Nat), i < all.length → (mk l n all).getD i 0 = if i ∈ dp l n then 1 else all.getD i 0
  | [], n, all, i, hi => by simp [mk, dp]
  | c :: l, n, all, i, hi => by
    rw [mk, dp]
    by_cases h : c = 45
    · rw [if_pos h, if_pos h, mk_at l n _ i (by rw [List.length_set]; exact hi)]
      by_cases h1 : i ∈ dp l n
      · rw [if_pos h1, if_pos (List.mem_cons_of_mem _ h1)]
      · rw [if_neg h1]
        by_cases h2 : i = n
        · subst h2
          rw [if_pos (List.mem_cons_self ..), List.getD_eq_getElem?_getD, List.getElem?_set_self hi]
          rfl
        · rw [if_neg (fun h3 => by rcases List.mem_cons.1 h3 with h3 | h3; exact h2 h3; exact h1 h3), List.getD_eq_getElem?_getD, List.getElem?_set_ne (fun e => h2 e.symm), List.getD_eq_getElem?_getD]
    · rw [if_neg h, if_neg h]
      exact mk_at l (n + 1) all i hi
theorem dp_ge : ∀ (l : List UInt8) (n x : Nat), x ∈ dp l n → n ≤ x
  | [], n, x, h => by cases h
  | c :: l, n, x, h => by
    rw [dp] at h
    split at h
    · rcases List.mem_cons.1 h with h | h
      · omega
      · exact dp_ge l n x h
    · have := dp_ge l (n + 1) x h; omega
theorem dp_gt (l : List UInt8) (n x : Nat) (hh : l.head? ≠ some 45) (h : x ∈ dp l n) : n < x := by
  cases l with
  | nil => cases h
  | cons c l =>
    have hc : c ≠ 45 := fun e => hh (by rw [e]; rfl)
    rw [dp, if_neg hc] at h
    have := dp_ge l (n + 1) x h
    omega
def NoTwo (l : List UInt8) : Prop := ∀ i : Nat, ¬ (l[i]? = some (45 : UInt8) ∧ l[i + 1]? = some (45 : UInt8))
theorem NoTwo.tail {c : UInt8} {l : List UInt8} (h : NoTwo (c :: l)) : NoTwo l := fun i hi => h (i + 1) (by simpa using hi)
theorem dp_sorted : ∀ (l : List UInt8) (n : Nat), NoTwo l → (dp l n).Pairwise (· < ·)
  | [], n, h => List.Pairwise.nil
  | c :: l, n, h => by
    rw [dp]
    split
    · rename_i hc
      refine List.Pairwise.cons (fun x hx => dp_gt l n x (fun hh => ?_) hx) (dp_sorted l n h.tail)
      refine h 0 ⟨by rw [hc]; rfl, ?_⟩
      rw [List.head?_eq_getElem?] at hh
      simpa using hh
    · exact dp_sorted l (n + 1) h.tail
theorem dp_lt : ∀ (l : List UInt8) (n x : Nat), l.getLast? ≠ some 45 → x ∈ dp l n → x < n + (nd l).length
  | [], n, x, hl, h => by cases h
  | [c], n, x, hl, h => by
    have hc : c ≠ 45 := fun e => hl (by rw [e]; rfl)
    rw [dp, if_neg hc] at h
    cases h
  | c :: c2 :: l, n, x, hl, h => by
    have hl2 : (c2 :: l).getLast? ≠ some 45 := by simpa using hl
    rw [dp] at h
    rw [nd_cons]
    by_cases hc : c = 45
    · rw [if_pos hc] at h
      rw [if_pos hc]
      rcases List.mem_cons.1 h with h | h
      · subst h
        have : 0 < (nd (c2 :: l)).length := by
          apply List.length_pos_of_mem (a := (c2 :: l).getLast (by simp))
          refine List.mem_filter.2 ⟨List.getLast_mem _, ?_⟩
          have : (c2 :: l).getLast (by simp) ≠ 45 := fun e => hl2 (by rw [List.getLast?_eq_some_getLast (by simp), e])
          simpa using this
        omega
      · exact dp_lt (c2 :: l) n x hl2 h
    · rw [if_neg hc] at h
      rw [if_neg hc, List.length_cons]
      have := dp_lt (c2 :: l) (n + 1) x hl2 h
      omega
theorem filt : ∀ (n a : Nat) (l : List Nat), l.Pairwise (· < ·) → (∀ x ∈ l, a ≤ x ∧ x < a + n) → (List.range' a n).filter (fun i => decide (i ∈ l)) = l
  | 0, a, l, hs, hb => by
    cases l with
    | nil => rfl
    | cons x l => have := hb x (List.mem_cons_self ..); omega
  | n + 1, a, l, hs, hb => by
    rw [List.range'_succ, List.filter_cons]
    cases l with
    | nil => simp
    | cons x l =>
      have hx := hb x (List.mem_cons_self ..)
      obtain ⟨h1, h2⟩ := List.pairwise_cons.1 hs
      by_cases e : x = a
      · subst e
        rw [if_pos (decide_eq_true (List.mem_cons_self ..))]
        congr 1
        rw [← filt n (x + 1) l h2 (fun y hy => ⟨h1 y hy, by have := (hb y (List.mem_cons_of_mem _ hy)).2; omega⟩)]
        apply List.filter_congr
        intro i hi
        have := (List.mem_range'_1.1 hi).1
        rw [decide_eq_decide, filt n (x + 1) l h2 (fun y hy => ⟨h1 y hy, by have := (hb y (List.mem_cons_of_mem _ hy)).2; omega⟩), List.mem_cons]
        exact ⟨fun h => by rcases h with h | h; omega; exact h, fun h => .inr h⟩
      · have ha : a ∉ x :: l := by
          intro h
          rcases List.mem_cons.1 h with h | h
          · exact e h.symm
          · have := h1 a h; omega
        rw [if_neg (by simpa using ha)]
        refine filt n (a + 1) (x :: l) hs (fun y hy => ⟨?_, by have := (hb y hy).2; omega⟩)
        rcases List.mem_cons.1 hy with h | h
        · omega
        · have := h1 y h; omega
theorem exc_dp (x : List UInt8) (h : excB x = true) : (List.range' 1 ((nd x).length - 1)).filter (fun i => decide (i ∈ dp x 0)) = dp x 0 := by
  unfold excB at h
  rw [Bool.and_eq_true, Bool.and_eq_true, Bool.and_eq_true, Bool.and_eq_true, decide_eq_true_eq] at h
  have hnot : ∀ b : Bool, (!b) = true ↔ ¬ b = true := by intro b; cases b <;> simp
  rw [hnot, hnot, hnot, decide_eq_true_eq, decide_eq_true_eq, contains_iff] at h
  obtain ⟨_, h2, h3, h4, h5⟩ := h
  refine filt _ _ _ (dp_sorted x 0 (fun i hi => h5 ⟨i, hi⟩)) (fun y hy => ?_)
  have ha := dp_gt x 0 y h3 hy
  have hb := dp_lt x 0 y h4 hy
  omega
end Go.Proofs.YtmjglgbkigjfkaaDoor.Pure

namespace Go.Proofs.YtmjglgbkigjfkaaDoor.Pure
open Go.RowKit Go.Proofs.YtmjglgbkigjfkaaDoor Go.Proofs.YtmjglgbkigjfkaaDoor.Xa Go.Proofs.YtmjglgbkigjfkaaDoorW.PrintWords Go.Proofs.YtmjglgbkigjfkaaDoorW.PrintLast Go.Proofs.YtmjglgbkigjfkaaDoorW.PrintMore
def ints (l : List Nat) : List Int := l.map fun x : Nat => (x : Int)
def oddI (x : Int) : Bool := decide (Int.tmod x 2 = 1)
/-- The odd places inside a word of n letters. -/
def odds (all : List Int) (n : Nat) : List Nat := (List.range' 1 (n - 1)).filter fun i => oddI (all.getD i 0)
def far (b h n : Nat) (i : Nat) : Bool := decide (b ≤ i ∧ i + h ≤ n)
/-- What exceptions leave of the places. -/
def found (w : List UInt8) : List (List UInt8) → List Nat → List Nat
  | [], F => F
  | x :: xs, F => found w xs (if nd x = w then dp x 0 else F)
def pointsR (w : List UInt8) (ps xs : List (List UInt8)) (a3 a4 : Int) : List Int × Int :=
  if chk ps xs = 0 then
    (if wordS w = true ∧ (1 ≤ a3 ∧ a3 ≤ 10) ∧ 1 ≤ a4 ∧ a4 ≤ 10 then
      (ints ((found (lowS w) xs (odds (valS (lowS w) ((patsOf ps).getD [])) w.length)).filter (far a3.toNat a4.toNat w.length)), 0)
    else ([], 1))
  else ([], chk ps xs)
theorem ints_append (a b : List Nat) : ints (a ++ b) = ints a ++ ints b := List.map_append ..
theorem range_skip (P : Nat → Bool) (n : Nat) : ∀ (d a b : Nat), a + d = b → (∀ i, a ≤ i → i < b → P i = false) → (List.range' a (n - a)).filter P = (List.range' b (n - b)).filter P
  | 0, a, b, h, hP => by rw [show a = b by omega]
  | d + 1, a, b, h, hP => by
    have ih := range_skip P n d (a + 1) b (by omega) (fun i h1 h2 => hP i (by omega) h2)
    by_cases ha : a < n
    · rw [show n - a = (n - (a + 1)) + 1 by omega, List.range'_succ, List.filter_cons, hP a (Nat.le_refl _) (by omega), if_neg Bool.false_ne_true]
      exact ih
    · rw [show n - a = 0 by omega, show n - b = 0 by omega]; rfl
theorem range_none (P : Nat → Bool) (a n : Nat) (hP : ∀ i, a ≤ i → P i = false) : (List.range' a n).filter P = [] := by
  rw [List.filter_eq_nil_iff]
  intro i hi
  rw [hP i (List.mem_range'_1.1 hi).1]
  exact Bool.false_ne_true
section
variable (w : List UInt8) (b h : Nat) (hw : w.length ≤ 60) (hb : 1 ≤ b ∧ b ≤ 10) (hh : 1 ≤ h ∧ h ≤ 10)
include hw hb hh
theorem pts_l2 (all : List Int) (hl : all.length = w.length + 1) : ∀ (d a : Nat) (acc : List Nat), d = w.length + 1 - a → b ≤ a → a ≤ 100 → acc.length ≤ a →
    Ev (fun k => hyphen_Points.l2 k (h : Int) (B w) all (ints acc) (a : Int)) (ints (acc ++ (List.range' a (w.length - a)).filter fun i => far b h w.length i && oddI (all.getD i 0)), 0)
  | d, a, acc, hd, ha, ha2, hacc => by
    have e : wrap64 (((B w).size : Int) - (h : Int)) = (w.length : Int) - (h : Int) := by rw [size_B, w64 (by omega) (by omega)]
    by_cases hc : a + h ≤ w.length
    · have ho : Int.tmod (rd all (a : Int)) 2 = 1 ↔ oddI (all.getD a 0) = true := by rw [mul_rd]; unfold oddI; rw [decide_eq_true_eq]
      have hfar : far b h w.length a = true := decide_eq_true ⟨ha, hc⟩
      rw [show w.length - a = (w.length - (a + 1)) + 1 by omega, List.range'_succ, List.filter_cons, hfar, Bool.true_and]
      match d, hd with
      | 0, hd => omega
      | d' + 1, hd =>
        by_cases hodd : oddI (all.getD a 0) = true
        · rw [if_pos hodd]
          have ih := pts_l2 all hl d' (a + 1) (acc ++ [a]) (by omega) (by omega) (by omega) (by rw [List.length_append, List.length_singleton]; omega)
          rw [List.append_assoc, List.singleton_append, ints_append] at ih
          refine Ev.step (fun k => ?_) ih
          rw [hyphen_Points.l2, e, if_pos (by omega), if_pos (by omega), if_pos (by omega), if_pos (ho.2 hodd), if_pos (by unfold ints; rw [List.length_map]; omega), w64 (x := (a : Int) + 1) (by omega) (by omega)]
          rfl
        · rw [if_neg hodd]
          have ih := pts_l2 all hl d' (a + 1) acc (by omega) (by omega) (by omega) (by omega)
          refine Ev.step (fun k => ?_) ih
          rw [hyphen_Points.l2, e, if_pos (by omega), if_pos (by omega), if_pos (by omega), if_neg (fun h' => hodd (ho.1 h')), w64 (x := (a : Int) + 1) (by omega) (by omega)]
          rfl
    · rw [range_none _ a _ (fun i hi => by rw [show far b h w.length i = false from decide_eq_false (by omega), Bool.false_and]), List.append_nil]
      refine Ev.step (f := fun _ => some _) (fun k => ?_) (Ev.now _)
      rw [hyphen_Points.l2, e, if_neg (by omega)]
theorem pts_end (all : List Int) (hl : all.length = w.length + 1) : Ev (fun k => hyphen_Points.l2 k (h : Int) (B w) all [] (b : Int)) (ints ((odds all w.length).filter (far b h w.length)), 0) := by
  have h1 := pts_l2 w b h hw hb hh all hl (w.length + 1 - b) b [] rfl (Nat.le_refl _) (by omega) (by simp)
  have e : (odds all w.length).filter (far b h w.length) = (List.range' b (w.length - b)).filter fun i => far b h w.length i && oddI (all.getD i 0) := by
    unfold odds
    rw [List.filter_filter]
    exact range_skip _ w.length (b - 1) 1 b (by omega) (fun i h1 h2 => by rw [show far b h w.length i = false from decide_eq_false (by omega), Bool.false_and])
  rw [e]
  exact h1
omit hw hb hh in
theorem pts_l1 (X : List ByteArray) (n : Int) (idx : Int) (x : List UInt8) (hx : x.length ≤ 1048576) (r : List Int × Int) : ∀ (d i a : Nat) (all : List Int), i + d = x.length → a ≤ i → all.length = w.length + 1 → a + (nd (x.drop i)).length = w.length →
    Ev (fun k => hyphen_Points.l0 k (b : Int) (h : Int) (B w) (mk (x.drop i) a all) X n (wrap64 (idx + 1))) r → Ev (fun k => hyphen_Points.l1 k (b : Int) (h : Int) (B w) all (B x) (a : Int) X n idx (x.length : Int) (i : Int)) r
  | 0, i, a, all, hi, ha, hl, hs, hr => by
    rw [List.drop_of_length_le (by omega)] at hr
    refine Ev.step (fun k => ?_) hr
    rw [hyphen_Points.l1, if_neg (by omega)]
    rfl
  | d + 1, i, a, all, hi, ha, hl, hs, hr => by
    have hlt : i < x.length := by omega
    rw [drop_at x i hlt, mk] at hr
    rw [drop_at x i hlt, nd_cons] at hs
    by_cases h45 : x[i] = 45
    · rw [if_pos h45] at hr hs
      have ih := pts_l1 X n idx x hx r d (i + 1) a _ (by omega) (by omega) (by rw [List.length_set]; exact hl) hs hr
      refine Ev.step (fun k => ?_) ih
      rw [hyphen_Points.l1, if_pos (by omega), if_pos (by omega), if_pos (by rw [size_B]; omega), bt_B x i hlt, if_pos ((eq45 _).2 h45), if_pos (by omega), if_pos (by omega), w64s hlt (by omega), Int.toNat_natCast]
    · rw [if_neg h45] at hr hs
      rw [List.length_cons] at hs
      have ih := pts_l1 X n idx x hx r d (i + 1) (a + 1) all (by omega) (by omega) hl (by omega) hr
      refine Ev.step (fun k => ?_) ih
      rw [hyphen_Points.l1, if_pos (by omega), if_pos (by omega), if_pos (by rw [size_B]; omega), bt_B x i hlt, if_neg (fun h => h45 ((eq45 _).1 h)), w64s hlt (by omega), w64 (x := (a : Int) + 1) (by omega) (by omega)]
      rfl
theorem pts_l0 (hw1 : 1 ≤ w.length) (xs : List (List UInt8)) (hx : Short xs) (he : xs.all excB = true) : ∀ (d i : Nat) (all : List Int) (F : List Nat), i + d = xs.length → all.length = w.length + 1 → odds all w.length = F →
    Ev (fun k => hyphen_Points.l0 k (b : Int) (h : Int) (B w) all (xs.map B) (xs.length : Int) (i : Int)) (ints ((found w (xs.drop i) F).filter (far b h w.length)), 0)
  | 0, i, all, F, hi, hl, hF => by
    rw [List.drop_of_length_le (by omega), found, ← hF]
    refine Ev.step (fun k => ?_) (pts_end w b h hw hb hh all hl)
    rw [hyphen_Points.l0, if_neg (by omega)]
  | d + 1, i, all, F, hi, hl, hF => by
    have hlt : i < xs.length := by omega
    have hn := hx.1
    have hxi := hx.2 _ (List.getElem_mem hlt)
    have hex := List.all_eq_true.1 he _ (List.getElem_mem hlt)
    rw [drop_at xs i hlt, found]
    have ew : wrap64 (((B w).size : Int) + 1) = ((w.length + 1 : Nat) : Int) := by rw [size_B, w64 (by omega) (by omega)]; omega
    by_cases hm : nd xs[i] = w
    · rw [if_pos hm]
      have hl2 : (mk xs[i] 0 (List.replicate (w.length + 1) 0)).length = w.length + 1 := by rw [mk_length, List.length_replicate]
      have ho : odds (mk xs[i] 0 (List.replicate (w.length + 1) 0)) w.length = dp xs[i] 0 := by
        rw [← exc_dp xs[i] hex, hm]
        unfold odds
        apply List.filter_congr
        intro j hj
        have hj2 := List.mem_range'_1.1 hj
        rw [mk_at xs[i] 0 _ j (by rw [List.length_replicate]; omega)]
        by_cases hd : j ∈ dp xs[i] 0
        · rw [if_pos hd, decide_eq_true hd]; rfl
        · rw [if_neg hd, decide_eq_false hd]
          unfold oddI
          rw [List.getD_eq_getElem?_getD, List.getElem?_replicate_of_lt (by omega)]
          rfl
      have ih := pts_l0 hw1 xs hx he d (i + 1) _ (dp xs[i] 0) (by omega) hl2 ho
      have h3 := pts_l1 w b h (xs.map B) (xs.length : Int) (i : Int) xs[i] hxi _ xs[i].length 0 0 (List.replicate (w.length + 1) 0) (by omega) (by omega) (by rw [List.length_replicate]) (by rw [List.drop_zero, hm]; omega) (by rw [w64s hlt (by omega)]; exact ih)
      refine Ev.step (fun k => ?_) h3
      rw [hyphen_Points.l0, if_pos (by omega), if_pos (by omega), if_pos (by rw [List.length_map]; omega), rdOf_at xs i hlt, rep_f _ hxi, Option.bind_some, toList_B, toList_B, if_pos hm, ew, if_pos (by omega), if_pos (by omega), Int.toNat_natCast, size_B]
      rfl
    · rw [if_neg hm]
      refine Ev.step (fun k => ?_) (pts_l0 hw1 xs hx he d (i + 1) all F (by omega) hl hF)
      rw [hyphen_Points.l0, if_pos (by omega), if_pos (by omega), if_pos (by rw [List.length_map]; omega), rdOf_at xs i hlt, rep_f _ hxi, Option.bind_some, toList_B, toList_B, if_neg hm, w64s hlt (by omega)]
/-! the reference's -/
end
theorem Points_f (w : List UInt8) (hw : w.length ≤ 1048576) (ps xs : List (List UInt8)) (hp : Short ps) (hx : Short xs) (a3 a4 : Int) :
    Ev (fun k => hyphen_Points.f k (B w) (ps.map B) (xs.map B) a3 a4) (pointsR w ps xs a3 a4) := by
  obtain ⟨t, hl, ht⟩ := low_ok w (by omega)
  by_cases hx2 : xs.length > 2000
  · have hc : chk ps xs = 2 := by unfold chk; rw [if_pos (.inr hx2)]
    refine Ev.congr (fun k => ?_) (Ev.now _)
    unfold pointsR
    rw [hyphen_Points.f, if_pos (by rw [List.length_map]; omega), hc, if_neg (by decide)]
  · have hhead : ∀ k, hyphen_Points.f k (B w) (ps.map B) (xs.map B) a3 a4 = (hyphen_parsed.f k (ps.map B)).bind fun bt159 => (if bt159.2 = 0 then ((slices_ContainsFunc_string_string.f k (xs.map B)).bind fun t163 => (hyphen_Points.j0 k (B w) (xs.map B) a3 a4 bt159.1 bt159.2 t163)) else (hyphen_Points.j0 k (B w) (xs.map B) a3 a4 bt159.1 bt159.2 false)) := by
      intro k
      rw [hyphen_Points.f, if_neg (by rw [List.length_map]; omega)]
    refine Ev.congr hhead (Ev.bind (parsed_f ps hp) ?_)
    have stop : ∀ (P : List S64) (e : Int), e ≠ 0 → Ev (fun k => hyphen_Points.j0 k (B w) (xs.map B) a3 a4 P e false) (([], e) : List Int × Int) := by
      intro P e he
      refine Ev.step (f := fun k => hyphen_Points.j1 k (B w) (xs.map B) a3 a4 P e) (fun k => ?_) (Ev.step (f := fun _ => some _) (fun k => ?_) (Ev.now _))
      · rw [hyphen_Points.j0, if_neg Bool.false_ne_true]
      · rw [hyphen_Points.j1, if_neg he]
    by_cases hp2 : ps.length > 2000
    · have hc : chk ps xs = 2 := by unfold chk; rw [if_pos (.inl hp2)]
      rw [if_pos hp2]
      unfold pointsR
      rw [hc, if_neg (by decide)]
      exact Ev.congr (fun k => if_neg (by decide)) (stop _ 2 (by decide))
    · rw [if_neg hp2]
      cases hq : patsOf ps with
      | none =>
        have hc : chk ps xs = 4 := by unfold chk; rw [if_neg (fun h => by rcases h with h | h; exact hp2 h; exact hx2 h), hq]; rfl
        unfold pointsR
        rw [hc, if_neg (by decide)]
        exact Ev.congr (fun k => if_neg (by decide)) (stop _ 4 (by decide))
      | some q =>
        dsimp only
        refine Ev.congr (fun k => if_pos rfl) (Ev.bind (containsFunc_f xs hx) ?_)
        by_cases he : xs.all excB = true
        · have hc : chk ps xs = 0 := by unfold chk; rw [if_neg (fun h => by rcases h with h | h; exact hp2 h; exact hx2 h), hq, if_pos (show (some q).isSome = true from rfl), if_pos he]
          rw [he]
          unfold pointsR
          rw [if_pos hc, hq]
          have hj1 : ∀ r, Ev (fun k => hyphen_Points.j1 k (B w) (xs.map B) a3 a4 (q.map mkS) 0) r → Ev (fun k => hyphen_Points.j0 k (B w) (xs.map B) a3 a4 (q.map mkS) 0 (!true)) r := by
            intro r h
            refine Ev.step (fun k => ?_) h
            rw [hyphen_Points.j0, if_neg (by decide)]
          have hno : Ev (fun k => hyphen_Points.j2 k (xs.map B) a3 a4 (q.map mkS) t true) (([], 1) : List Int × Int) := by
            refine Ev.step (f := fun _ => some _) (fun k => ?_) (Ev.now _)
            rw [hyphen_Points.j2, if_pos rfl]
          by_cases hwd : wordS w = true
          · by_cases hab : (1 ≤ a3 ∧ a3 ≤ 10) ∧ 1 ≤ a4 ∧ a4 ≤ 10
            · rw [if_pos ⟨hwd, hab⟩]
              have hs := word_short hwd
              obtain ⟨b, rfl⟩ := Int.eq_ofNat_of_zero_le (a := a3) (by omega)
              obtain ⟨h, rfl⟩ := Int.eq_ofNat_of_zero_le (a := a4) (by omega)
              obtain ⟨hf, hl2⟩ := patsOf_fit ps hp.2 q hq
              have hll := lowS_length w
              have hv := values_f (lowS w) (by omega) q hf (by have := hp.1; omega)
              have h0 := pts_l0 (lowS w) b h (by omega) (by omega) (by omega) (by omega) xs hx he xs.length 0 (valS (lowS w) q) _ (by omega) (valS_length _ _) rfl
              rw [List.drop_zero, hll] at h0
              refine hj1 _ (Ev.step (f := fun k => hyphen_Points.j2 k (xs.map B) (b : Int) (h : Int) (q.map mkS) t false) (fun k => ?_) (Ev.step (f := fun k => (hyphen_values.f k (B (lowS w)) (q.map mkS)).bind fun t166 => (hyphen_Points.l0 k (b : Int) (h : Int) (B (lowS w)) t166 (xs.map B) (xs.length : Int) 0)) (fun k => ?_) (Ev.bind hv h0)))
              · rw [hyphen_Points.j1, if_pos rfl, hl, Option.bind_some]
                dsimp only
                rw [if_pos hwd, if_neg (by unfold mn; split <;> omega), decide_eq_false (by unfold mx; split <;> omega)]
              · rw [hyphen_Points.j2, if_neg Bool.false_ne_true, ht hwd, List.length_map]
            · rw [if_neg (fun h => hab h.2)]
              refine hj1 _ (Ev.step (fun k => ?_) hno)
              rw [hyphen_Points.j1, if_pos rfl, hl, Option.bind_some]
              dsimp only
              rw [if_pos hwd]
              by_cases hmn : mn a3 a4 < 1
              · rw [if_pos hmn]
              · rw [if_neg hmn, decide_eq_true (by
                  unfold mn at hmn
                  unfold mx
                  split at hmn <;> split <;> omega)]
          · rw [if_neg (fun h => hwd h.1)]
            refine hj1 _ (Ev.step (fun k => ?_) hno)
            rw [hyphen_Points.j1, if_pos rfl, hl, Option.bind_some]
            dsimp only
            rw [if_neg hwd]
        · have hc : chk ps xs = 4 := by unfold chk; rw [if_neg (fun h => by rcases h with h | h; exact hp2 h; exact hx2 h), hq, if_pos (show (some q).isSome = true from rfl), if_neg he]
          rw [Bool.eq_false_iff.2 he]
          unfold pointsR
          rw [hc, if_neg (by decide)]
          refine Ev.step (f := fun k => hyphen_Points.j1 k (B w) (xs.map B) a3 a4 (q.map mkS) 4) (fun k => ?_) (Ev.step (f := fun _ => some _) (fun k => ?_) (Ev.now _))
          · rw [hyphen_Points.j0, if_pos (by decide)]
          · rw [hyphen_Points.j1, if_neg (by decide)]
end Go.Proofs.YtmjglgbkigjfkaaDoor.Pure

namespace Go.Proofs.YtmjglgbkigjfkaaDoor.Pure
open Go.RowKit Go.Proofs.YtmjglgbkigjfkaaDoor Go.Proofs.YtmjglgbkigjfkaaDoor.Xa Go.Proofs.YtmjglgbkigjfkaaDoorW.PrintWords Go.Proofs.YtmjglgbkigjfkaaDoorW.PrintLast Go.Proofs.YtmjglgbkigjfkaaDoorW.PrintMore
def stdPs : List (List UInt8) := Lib.fields stdText.data.toList
theorem std_short : Short stdPs := by
  have h : (decide (stdPs.length ≤ 1048576) && stdPs.all fun p => decide (p.length ≤ 1048576)) = true := by decide +kernel
  rw [Bool.and_eq_true, decide_eq_true_eq] at h
  exact ⟨h.1, fun p hp => of_decide_eq_true (List.all_eq_true.1 h.2 p hp)⟩
theorem short_nil : Short [] := ⟨by simp, fun p h => (by cases h)⟩
theorem sane_ev : Ev frisketlaw09_sane.f true := by
  have hP := Points_f [110, 97, 116, 105, 111, 110] (by decide) stdPs [] std_short short_nil 2 2
  have e : pointsR [110, 97, 116, 105, 111, 110] stdPs [] 2 2 = ([2], 0) := by decide +kernel
  rw [e] at hP
  have h2 : Ev (fun k => (hyphen_Points.f k (⟨#[110, 97, 116, 105, 111, 110]⟩ : ByteArray) stdList ([] : List ByteArray) 2 2).bind fun bt184 => (if bt184.2 = 0 then (if (bt184.1.length : Int) = 1 then (if 0 < (bt184.1.length : Int) then (some ((rd bt184.1 0) == 2)) else (none)) else (some false)) else (some false))) true :=
    Ev.bind (f := fun _ (b : List Int × Int) => if b.2 = 0 then (if (b.1.length : Int) = 1 then (if 0 < (b.1.length : Int) then (some ((rd b.1 0) == 2)) else (none)) else (some false)) else (some false)) hP (Ev.congr (fun _ => by decide) (Ev.now true))
  exact h2
end Go.Proofs.YtmjglgbkigjfkaaDoor.Pure

namespace Go.Proofs.YtmjglgbkigjfkaaDoor.Pure
open Go.RowKit Go.Proofs.YtmjglgbkigjfkaaDoor Go.Proofs.YtmjglgbkigjfkaaDoor.Xa Go.Proofs.YtmjglgbkigjfkaaDoorW.PrintWords Go.Proofs.YtmjglgbkigjfkaaDoorW.PrintLast Go.Proofs.YtmjglgbkigjfkaaDoorW.PrintMore
def lettersOf : List UInt8 := [97, 98, 100, 101, 105, 108, 110, 111, 114, 115, 116, 117, 84, 69, 78]
def letterNo (x : Int) : Nat := (Int.tmod (IntKind.u64.wrap x) 15).toNat
def wordOf (l : List Int) : List UInt8 := (l.take 60).map fun x => lettersOf.getD (letterNo x) 0
def wordL (l : List Int) : List UInt8 := if wordOf l = [] then [97] else wordOf l
theorem u64_nonneg (x : Int) : 0 ≤ IntKind.u64.wrap x := by
  unfold IntKind.wrap
  simp [IntKind.bits, IntKind.signed]
  omega
theorem letterNo_lt (x : Int) : letterNo x < 15 := by
  have h : 0 ≤ IntKind.u64.wrap x := u64_nonneg x
  have h2 := Int.tmod_lt_of_pos (IntKind.u64.wrap x) (b := 15) (by decide)
  unfold letterNo
  omega
theorem tmod15 (x : Int) : wrap64 (Int.tmod (IntKind.u64.wrap x) 15) = (letterNo x : Int) := by
  have h : 0 ≤ IntKind.u64.wrap x := u64_nonneg x
  have h1 : 0 ≤ Int.tmod (IntKind.u64.wrap x) 15 := Int.tmod_nonneg _ h
  have h2 := Int.tmod_lt_of_pos (IntKind.u64.wrap x) (b := 15) (by decide)
  rw [w64 (by omega) (by omega)]
  unfold letterNo
  omega
theorem lettersB : (⟨#[97, 98, 100, 101, 105, 108, 110, 111, 114, 115, 116, 117, 84, 69, 78]⟩ : ByteArray) = B lettersOf := rfl
theorem letters_good (n : Nat) (h : n < 15) : (smallB (lettersOf.getD n 0) || greatB (lettersOf.getD n 0)) = true := by
  have : ∀ n : Fin 15, (smallB (lettersOf.getD n.val 0) || greatB (lettersOf.getD n.val 0)) = true := by decide +kernel
  exact this ⟨n, h⟩
theorem rd_at (l : List Int) (i : Nat) (h : i < l.length) : rd l (i : Int) = l[i] := by
  unfold rd
  rw [Int.toNat_natCast, List.getD_eq_getElem?_getD, List.getElem?_eq_getElem h]
  rfl
theorem wordOf_length (l : List Int) : (wordOf l).length = min 60 l.length := by rw [wordOf, List.length_map, List.length_take]
theorem word_end (k : Nat) (w : List UInt8) : (if (B w).toList = ([] : List UInt8) then (some (⟨#[97]⟩ : ByteArray)) else (some (B w))) = some (B (if w = [] then [97] else w)) := by
  rw [toList_B]
  by_cases h : w = []
  · rw [if_pos h, if_pos h]
    rfl
  · rw [if_neg h, if_neg h]
theorem word_l0 (l : List Int) : ∀ (d i : Nat), i + d = min 60 l.length →
    Ev (fun k => frisketlaw09_Word.l0 k l (B ((wordOf l).take i)) (i : Int)) (B (wordL l))
  | 0, i, hi => by
    have e : (wordOf l).take i = wordOf l := by rw [List.take_of_length_le]; rw [wordOf_length]; omega
    refine Ev.step (f := fun _ => some (B (wordL l))) (fun k => ?_) (Ev.now _)
    rw [frisketlaw09_Word.l0, e]
    by_cases h : i < l.length
    · rw [if_pos (by omega), if_neg (by omega), word_end k]
      rfl
    · rw [if_neg (by omega), word_end k]
      rfl
  | d + 1, i, hi => by
    have h1 : i < l.length := by omega
    have h2 : i < 60 := by omega
    have hm := letterNo_lt l[i]
    have hw : i < (wordOf l).length := by rw [wordOf_length]; omega
    have e : B ((wordOf l).take i) ++ B [lettersOf.getD (letterNo l[i]) 0] = B ((wordOf l).take (i + 1)) := by
      rw [append_B, ← List.take_append_getElem hw]
      congr 1
      simp [wordOf]
    have ex : (B lettersOf).extract ((letterNo l[i] : Int)).toNat (((letterNo l[i] + 1 : Nat) : Int)).toNat = B [lettersOf.getD (letterNo l[i]) 0] := by
      rw [take1 lettersOf (letterNo l[i]) hm, List.getD_eq_getElem?_getD, List.getElem?_eq_getElem (l := lettersOf) hm]
      rfl
    refine Ev.step (fun k => ?_) (word_l0 l d (i + 1) (by omega))
    rw [frisketlaw09_Word.l0, if_pos (by omega), if_pos (by omega), if_pos (by omega), rd_at l i h1, tmod15, if_pos (by omega), w64s (n := 15) hm (by omega), if_pos (by omega), if_pos (by omega), lettersB, ex, if_pos (by
      rw [size_B, size_B, List.length_take, List.length_singleton]
      omega), e, w64s h2 (by omega)]
theorem word_ev (l : List Int) : Ev (fun k => frisketlaw09_Word.f k l) (B (wordL l)) := by
  refine Ev.congr (fun k => ?_) (word_l0 l (min 60 l.length) 0 (by omega))
  rfl
theorem wordL_length (l : List Int) : 1 ≤ (wordL l).length ∧ (wordL l).length ≤ 60 := by
  unfold wordL
  have := wordOf_length l
  split
  · simp
  · rename_i h
    have : (wordOf l).length ≠ 0 := fun e => h (List.eq_nil_of_length_eq_zero e)
    omega
theorem wordL_good (l : List Int) : ∀ c ∈ wordL l, (smallB c || greatB c) = true := by
  intro c hc
  unfold wordL at hc
  split at hc
  · rw [List.mem_singleton] at hc
    subst hc
    decide
  · obtain ⟨x, _, rfl⟩ := List.mem_map.1 hc
    exact letters_good _ (letterNo_lt x)
theorem wordL_word (l : List Int) : wordS (wordL l) = true := by
  unfold wordS
  have h := wordL_length l
  rw [Bool.and_eq_true, List.all_eq_true, decide_eq_true_eq]
  exact ⟨fun c hc => wordL_good l c hc, h⟩
end Go.Proofs.YtmjglgbkigjfkaaDoor.Pure

namespace Go.Proofs.YtmjglgbkigjfkaaDoor.Pure
open Go.RowKit Go.Proofs.YtmjglgbkigjfkaaDoor Go.Proofs.YtmjglgbkigjfkaaDoor.Xa Go.Proofs.YtmjglgbkigjfkaaDoorW.PrintWords Go.Proofs.YtmjglgbkigjfkaaDoorW.PrintLast Go.Proofs.YtmjglgbkigjfkaaDoorW.PrintMore
def SegOk (s : List UInt8) : Prop := ∃ c, smallB c = true ∧ (s = [c] ∨ ∃ g, digB g = true ∧ s = [g, c])
def Pre (s : List UInt8) (j : Nat) : Prop := ∃ (f : List UInt8) (segs : List (List UInt8)), s = f ++ segs.flatten ∧ (f = [] ∨ f = [46]) ∧ segs.length = j ∧ ∀ x ∈ segs, SegOk x
theorem flat_len : ∀ segs : List (List UInt8), (∀ x ∈ segs, SegOk x) → segs.flatten.length ≤ 2 * segs.length
  | [], _ => by simp
  | x :: r, h => by
    have h1 := flat_len r (fun y hy => h y (List.mem_cons_of_mem _ hy))
    obtain ⟨c, _, hx | ⟨g, _, hx⟩⟩ := h x (List.mem_cons_self ..) <;> subst hx <;> simp [-List.length_flatten] <;> omega
theorem pre_len {s : List UInt8} {j : Nat} (h : Pre s j) : s.length ≤ 1 + 2 * j := by
  obtain ⟨f, segs, rfl, hf, rfl, hs⟩ := h
  have := flat_len segs hs
  rw [List.length_append]
  rcases hf with rfl | rfl
  · rw [List.length_nil]; omega
  · rw [List.length_singleton]; omega
theorem pre_snoc {s x : List UInt8} {j : Nat} (h : Pre s j) (hx : SegOk x) : Pre (s ++ x) (j + 1) := by
  obtain ⟨f, segs, rfl, hf, rfl, hs⟩ := h
  refine ⟨f, segs ++ [x], by simp, hf, by simp, fun y hy => ?_⟩
  rcases List.mem_append.1 hy with hy | hy
  · exact hs y hy
  · rw [List.mem_singleton] at hy
    subst hy
    exact hx
theorem getD_mid (p r : List UInt8) (c : UInt8) : (p ++ c :: r).getD p.length 0 = c := by
  rw [List.getD_eq_getElem?_getD, List.getElem?_append_right (Nat.le_refl _), Nat.sub_self]
  rfl
theorem small_not_dig {c : UInt8} (h : smallB c = true) : ¬ digB c = true := fun e => by
  rw [dig_not_small e] at h
  cases h
theorem pat_letter (p r : List UInt8) (c : UInt8) (hc : smallB c = true) (d m g : Nat) (t : List UInt8) (v : List Int) :
    patS (p ++ c :: r) (d + 1) p.length m g t v = patS (p ++ c :: r) d (p.length + 1) (m + 1) 0 (t ++ [c]) (v ++ [(g : Int)]) := by
  rw [patS, getD_mid, if_neg (small_not_dig hc), if_pos hc]
theorem pat_digit (p r : List UInt8) (g : UInt8) (hg : digB g = true) (d m : Nat) (t : List UInt8) (v : List Int) :
    patS (p ++ g :: r) (d + 1) p.length m 0 t v = patS (p ++ g :: r) d (p.length + 1) m (g.toNat - 48) t v := by
  rw [patS, getD_mid, if_pos hg, if_pos rfl]
theorem pat_segs : ∀ (segs : List (List UInt8)) (p b : List UInt8) (m : Nat) (t : List UInt8) (v : List Int), (∀ x ∈ segs, SegOk x) →
    ∃ t' v', patS (p ++ (segs.flatten ++ b)) (segs.flatten.length + b.length) p.length m 0 t v = patS (p ++ (segs.flatten ++ b)) b.length (p.length + segs.flatten.length) (m + segs.length) 0 t' v'
  | [], p, b, m, t, v, _ => ⟨t, v, by simp⟩
  | x :: r, p, b, m, t, v, h => by
    obtain ⟨c, hc, hx | ⟨g, hg, hx⟩⟩ := h x (List.mem_cons_self ..)
    · subst hx
      obtain ⟨t', v', e⟩ := pat_segs r (p ++ [c]) b (m + 1) (t ++ [c]) (v ++ [((0 : Nat) : Int)]) (fun y hy => h y (List.mem_cons_of_mem _ hy))
      refine ⟨t', v', ?_⟩
      have e1 : p ++ (([c] :: r).flatten ++ b) = p ++ c :: (r.flatten ++ b) := by simp
      have e2 : p ++ [c] ++ (r.flatten ++ b) = p ++ c :: (r.flatten ++ b) := by simp
      have e3 : ([c] :: r).flatten.length + b.length = (r.flatten.length + b.length) + 1 := by simp; omega
      have e4 : p.length + ([c] :: r).flatten.length = (p ++ [c]).length + r.flatten.length := by simp; omega
      have e5 : m + ([c] :: r).length = m + 1 + r.length := by simp; omega
      have e6 : (p ++ [c]).length = p.length + 1 := by simp
      rw [e2, e6] at e
      rw [e1, e3, e4, e5, e6, pat_letter p _ c hc, e]
    · subst hx
      obtain ⟨t', v', e⟩ := pat_segs r (p ++ [g] ++ [c]) b (m + 1) (t ++ [c]) (v ++ [((g.toNat - 48 : Nat) : Int)]) (fun y hy => h y (List.mem_cons_of_mem _ hy))
      refine ⟨t', v', ?_⟩
      have e1 : p ++ (([g, c] :: r).flatten ++ b) = p ++ g :: c :: (r.flatten ++ b) := by simp
      have e1' : (p ++ [g]) ++ c :: (r.flatten ++ b) = p ++ g :: c :: (r.flatten ++ b) := by simp
      have e2 : p ++ [g] ++ [c] ++ (r.flatten ++ b) = p ++ g :: c :: (r.flatten ++ b) := by simp
      have e3 : ([g, c] :: r).flatten.length + b.length = (r.flatten.length + b.length) + 1 + 1 := by simp; omega
      have e4 : p.length + ([g, c] :: r).flatten.length = p.length + 1 + 1 + r.flatten.length := by simp; omega
      have e5 : m + ([g, c] :: r).length = m + 1 + r.length := by simp; omega
      have e6 : (p ++ [g] ++ [c]).length = p.length + 1 + 1 := by simp
      have e7 : (p ++ [g]).length = p.length + 1 := by simp
      rw [e2, e6] at e
      have hl := pat_letter (p ++ [g]) (r.flatten ++ b) c hc (r.flatten.length + b.length) m (g.toNat - 48) t v
      rw [e1', e7] at hl
      rw [e1, e3, e4, e5, pat_digit p _ g hg, hl, e]
theorem pat_dot0 (r : List UInt8) (d m : Nat) (t : List UInt8) (v : List Int) : patS (46 :: r) (d + 1) 0 m 0 t v = patS (46 :: r) d 1 m 0 (t ++ [46]) (v ++ [((0 : Nat) : Int)]) := by
  rw [patS]
  have e : (46 :: r).getD 0 0 = (46 : UInt8) := rfl
  rw [e, if_neg (by decide), if_neg (by decide), if_pos ⟨rfl, .inl rfl⟩]
theorem pat_end (l : List UInt8) (b : List UInt8) (hb : b = [] ∨ b = [46]) (m : Nat) (t : List UInt8) (v : List Int) : ∃ t' v', patS (l ++ b) b.length l.length m 0 t v = some (m, t', v') := by
  rcases hb with rfl | rfl
  · exact ⟨_, _, rfl⟩
  · refine ⟨t ++ [46], v ++ [0] ++ [0], ?_⟩
    rw [show [(46 : UInt8)].length = 0 + 1 from rfl, patS, getD_mid, if_neg (by decide), if_neg (by decide), if_pos ⟨rfl, .inr (by simp)⟩, patS]
    rfl
theorem pat_ok {s : List UInt8} {j : Nat} (h : Pre s j) (h1 : 1 ≤ j) (h15 : j ≤ 15) (b : List UInt8) (hb : b = [] ∨ b = [46]) : (patOf (s ++ b)).isSome = true := by
  obtain ⟨f, segs, rfl, hf, rfl, hs⟩ := h
  have key : ∃ t v, patS (f ++ segs.flatten ++ b) (f ++ segs.flatten ++ b).length 0 0 0 [] [] = some (segs.length, t, v) := by
    rcases hf with rfl | rfl
    · obtain ⟨t1, v1, e⟩ := pat_segs segs [] b 0 [] [] hs
      obtain ⟨t2, v2, e2⟩ := pat_end segs.flatten b hb segs.length t1 v1
      refine ⟨t2, v2, ?_⟩
      simp only [List.nil_append, List.length_nil, Nat.zero_add] at e
      rw [List.nil_append, List.length_append, e, e2]
    · obtain ⟨t1, v1, e⟩ := pat_segs segs [46] b 0 ([] ++ [46]) ([] ++ [((0 : Nat) : Int)]) hs
      obtain ⟨t2, v2, e2⟩ := pat_end ([46] ++ segs.flatten) b hb segs.length t1 v1
      refine ⟨t2, v2, ?_⟩
      have el : ([46] ++ segs.flatten ++ b).length = (segs.flatten.length + b.length) + 1 := by simp
      have ea : [46] ++ segs.flatten ++ b = (46 : UInt8) :: (segs.flatten ++ b) := by simp
      have eb : [46] ++ (segs.flatten ++ b) = (46 : UInt8) :: (segs.flatten ++ b) := rfl
      have ec : ([46] ++ segs.flatten).length = [(46 : UInt8)].length + segs.flatten.length := List.length_append
      rw [ea, ec] at e2
      rw [eb, Nat.zero_add] at e
      rw [el, ea, pat_dot0, ← e2, ← e]
      rfl
  obtain ⟨t, v, e⟩ := key
  unfold patOf
  rw [e]
  dsimp only
  rw [if_pos ⟨h1, h15⟩]
  rfl
end Go.Proofs.YtmjglgbkigjfkaaDoor.Pure

namespace Go.Proofs.YtmjglgbkigjfkaaDoor.Pure
open Go.RowKit Go.Proofs.YtmjglgbkigjfkaaDoor Go.Proofs.YtmjglgbkigjfkaaDoor.Xa Go.Proofs.YtmjglgbkigjfkaaDoorW.PrintWords Go.Proofs.YtmjglgbkigjfkaaDoorW.PrintLast Go.Proofs.YtmjglgbkigjfkaaDoorW.PrintMore
def GoodP (p : List UInt8) : Prop := p.length ≤ 10 ∧ (patOf p).isSome = true
theorem u64_small (n : Nat) (h : n ≤ 9223372036854775807) : IntKind.u64.wrap (n : Int) = (n : Int) := by
  unfold IntKind.wrap
  simp [IntKind.bits, IntKind.signed]
  omega
theorem u64_succ (n : Nat) (h : n ≤ 281474976710656) : IntKind.u64.wrap ((n : Int) + 1) = ((n + 1 : Nat) : Int) := u64_small (n + 1) (by omega)
theorem tmod_nat (x : Int) (m : Nat) (hm : 0 < m) (h : 0 ≤ x) : ∃ n : Nat, Int.tmod x (m : Int) = (n : Int) ∧ n < m := by
  have h1 := Int.tmod_nonneg (m : Int) h
  have h2 := Int.tmod_lt_of_pos x (b := (m : Int)) (by omega)
  exact ⟨(Int.tmod x (m : Int)).toNat, by omega, by omega⟩
def lettersP : List UInt8 := [97, 98, 100, 101, 105, 108, 110, 111, 114, 115, 116, 117]
theorem lettersPB : (⟨#[97, 98, 100, 101, 105, 108, 110, 111, 114, 115, 116, 117]⟩ : ByteArray) = B lettersP := rfl
theorem lettersP_small (n : Nat) (h : n < 12) : smallB (lettersP.getD n 0) = true := by
  have : ∀ n : Fin 12, smallB (lettersP.getD n.val 0) = true := by decide +kernel
  exact this ⟨n, h⟩
theorem cutP (n : Nat) (h : n < 12) : (B lettersP).extract ((n : Int)).toNat (((n + 1 : Nat) : Int)).toNat = B [lettersP.getD n 0] := by
  rw [take1 lettersP n h, List.getD_eq_getElem?_getD, List.getElem?_eq_getElem (l := lettersP) h]
  rfl
theorem digitN (d : Nat) (h0 : 0 < d) (h : d < 10) : strOfNums [((48 + d : Nat) : Int) % 256] = B [UInt8.ofNat (48 + d)] ∧ digB (UInt8.ofNat (48 + d)) = true := by
  have : ∀ d : Fin 10, 0 < d.val → strOfNums [((48 + d.val : Nat) : Int) % 256] = B [UInt8.ofNat (48 + d.val)] ∧ digB (UInt8.ofNat (48 + d.val)) = true := by decide +kernel
  exact this ⟨d, h⟩ h0
theorem pats_l1 (l : List Int) (acc : List (List UInt8)) (i : Nat) (hi : i < l.length) (hi40 : i < 40) (hacc : acc.length = i) (hg : ∀ p ∈ acc, GoodP p)
    (next : ∀ acc' : List (List UInt8), acc'.length = i + 1 → (∀ p ∈ acc', GoodP p) → ∃ ps : List (List UInt8), Ev (fun k => frisketlaw09_patterns.l0 k l (acc'.map B) ((i + 1 : Nat) : Int)) (ps.map B) ∧ ps.length ≤ 40 ∧ ∀ p ∈ ps, GoodP p)
    (x : Int) (hx : 0 ≤ x) (q : Nat) (hq : Int.tmod x 4 = (q : Int)) (hq4 : q < 4) : ∀ (e j : Nat), j + e = 1 + q → ∀ s, Pre s j →
    ∃ ps : List (List UInt8), Ev (fun k => frisketlaw09_patterns.l1 k l (acc.map B) (i : Int) x (B s) (j : Int)) (ps.map B) ∧ ps.length ≤ 40 ∧ ∀ p ∈ ps, GoodP p
  | 0, j, he, s, hs => by
    have hl := pre_len hs
    have hm : ∀ a : List UInt8, acc.map B ++ [B a] = (acc ++ [a]).map B := fun a => by simp
    have hlt : (acc.map B).length < 8796093022208 := by rw [List.length_map]; omega
    have hwr : IntKind.u64.wrap (1 + (q : Int)) = ((1 + q : Nat) : Int) := u64_small (1 + q) (by omega)
    have hgood : ∀ b, b = [] ∨ b = [46] → ∀ p ∈ acc ++ [s ++ b], GoodP p := fun b hb p hp => by
      rcases List.mem_append.1 hp with hp | hp
      · exact hg p hp
      · rw [List.mem_singleton] at hp
        subst hp
        refine ⟨?_, pat_ok hs (by omega) (by omega) b hb⟩
        rw [List.length_append]
        rcases hb with rfl | rfl
        · rw [List.length_nil]; omega
        · rw [List.length_singleton]; omega
    by_cases h13 : Int.tmod x 13 = 0
    · obtain ⟨ps, hev, hps⟩ := next (acc ++ [s ++ [46]]) (by rw [List.length_append, List.length_singleton]; omega) (hgood [46] (.inr rfl))
      refine ⟨ps, Ev.step (fun k => ?_) hev, hps⟩
      rw [frisketlaw09_patterns.l1, hq, hwr, if_neg (by omega), if_pos h13, if_pos (by rw [size_B]; omega), if_pos hlt, show (⟨#[46]⟩ : ByteArray) = B [46] from rfl, append_B, hm, w64s hi40 (by omega)]
    · obtain ⟨ps, hev, hps⟩ := next (acc ++ [s]) (by rw [List.length_append, List.length_singleton]; omega) (by have := hgood [] (.inl rfl); rwa [List.append_nil] at this)
      refine ⟨ps, Ev.step (fun k => ?_) hev, hps⟩
      rw [frisketlaw09_patterns.l1, hq, hwr, if_neg (by omega), if_neg h13, if_pos hlt, hm, w64s hi40 (by omega)]
  | e + 1, j, he, s, hs => by
    have hl := pre_len hs
    have hwr : IntKind.u64.wrap (1 + (q : Int)) = ((1 + q : Nat) : Int) := u64_small (1 + q) (by omega)
    obtain ⟨d, hd, hd10⟩ := tmod_nat (IntKind.u64.wrap ((Int.tmod (IntKind.u64.wrap (Int.tdiv x 3)) 7) * (IntKind.u64.wrap ((j : Int) + 1)))) 10 (by decide) (u64_nonneg _)
    obtain ⟨c, hc, hc12⟩ := tmod_nat (IntKind.u64.wrap ((IntKind.u64.wrap (Int.tdiv x 7)) + (IntKind.u64.wrap ((IntKind.u64.wrap ((j : Int) * (j : Int))) * 3)))) 12 (by decide) (u64_nonneg _)
    have hsm := lettersP_small c hc12
    rw [show ((10 : Nat) : Int) = 10 from rfl] at hd
    rw [show ((12 : Nat) : Int) = 12 from rfl] at hc
    by_cases h0 : 0 < d
    · obtain ⟨e1, e2⟩ := digitN d h0 hd10
      have h48 : IntKind.u64.wrap (48 + (d : Int)) = ((48 + d : Nat) : Int) := u64_small (48 + d) (by omega)
      obtain ⟨ps, hev, hps⟩ := pats_l1 l acc i hi hi40 hacc hg next x hx q hq hq4 e (j + 1) (by omega) (s ++ [UInt8.ofNat (48 + d), lettersP.getD c 0]) (pre_snoc hs ⟨_, hsm, .inr ⟨_, e2, rfl⟩⟩)
      refine ⟨ps, Ev.step (fun k => ?_) hev, hps⟩
      have ea : s ++ [UInt8.ofNat (48 + d), lettersP.getD c 0] = s ++ [UInt8.ofNat (48 + d)] ++ [lettersP.getD c 0] := by simp
      rw [frisketlaw09_patterns.l1, hq, hwr, if_pos (by omega), hd, hc, if_pos (by omega), h48, Option.bind_some, e1, if_pos (by rw [size_B, size_B, List.length_singleton]; omega), if_pos (by omega), u64_succ c (by omega), if_pos (by omega), if_pos (by omega), lettersPB, cutP c hc12,
        append_B, if_pos (by rw [size_B, size_B, List.length_append, List.length_singleton, List.length_singleton]; omega), append_B, u64_succ j (by omega), ea]
    · obtain ⟨ps, hev, hps⟩ := pats_l1 l acc i hi hi40 hacc hg next x hx q hq hq4 e (j + 1) (by omega) (s ++ [lettersP.getD c 0]) (pre_snoc hs ⟨_, hsm, .inl rfl⟩)
      refine ⟨ps, Ev.step (fun k => ?_) hev, hps⟩
      rw [frisketlaw09_patterns.l1, hq, hwr, if_pos (by omega), hd, hc, if_neg (by omega), if_pos (by omega), u64_succ c (by omega), if_pos (by omega), if_pos (by omega), lettersPB, cutP c hc12, if_pos (by rw [size_B, size_B, List.length_singleton]; omega), append_B, u64_succ j (by omega)]
theorem pre_nil (f : List UInt8) (h : f = [] ∨ f = [46]) : Pre f 0 := ⟨f, [], by simp, h, rfl, fun x hx => by cases hx⟩
theorem pats_l0 (l : List Int) : ∀ (d i : Nat), i + d = min 40 l.length → ∀ acc : List (List UInt8), acc.length = i → (∀ p ∈ acc, GoodP p) →
    ∃ ps : List (List UInt8), Ev (fun k => frisketlaw09_patterns.l0 k l (acc.map B) (i : Int)) (ps.map B) ∧ ps.length ≤ 40 ∧ ∀ p ∈ ps, GoodP p
  | 0, i, hi, acc, ha, hg => by
    refine ⟨acc, ?_, by omega, hg⟩
    have hj : Ev (fun k => frisketlaw09_patterns.j1 k l (acc.map B) (i : Int) false) (acc.map B) := by
      refine Ev.step (f := fun _ => some (acc.map B)) (fun k => ?_) (Ev.now _)
      rw [frisketlaw09_patterns.j1, if_neg Bool.false_ne_true]
    refine Ev.step (fun k => ?_) hj
    by_cases h : i < l.length
    · rw [frisketlaw09_patterns.l0, if_pos (by omega), decide_eq_false (by omega)]
    · rw [frisketlaw09_patterns.l0, if_neg (by omega)]
  | d + 1, i, hi, acc, ha, hg => by
    have h1 : i < l.length := by omega
    have h40 : i < 40 := by omega
    have hx := u64_nonneg l[i]
    obtain ⟨q, hq, hq4⟩ := tmod_nat (IntKind.u64.wrap l[i]) 4 (by decide) hx
    rw [show ((4 : Nat) : Int) = 4 from rfl] at hq
    have inner := fun f hf => pats_l1 l acc i h1 h40 ha hg (fun acc' ha' hg' => pats_l0 l d (i + 1) (by omega) acc' ha' hg') (IntKind.u64.wrap l[i]) hx q hq hq4 (1 + q) 0 (by omega) f (pre_nil f hf)
    have h2 : ∀ f, f = [] ∨ f = [46] → ∃ ps : List (List UInt8), Ev (fun k => frisketlaw09_patterns.j2 k l (acc.map B) (i : Int) (IntKind.u64.wrap l[i]) (B f)) (ps.map B) ∧ ps.length ≤ 40 ∧ ∀ p ∈ ps, GoodP p := fun f hf => by
      obtain ⟨ps, hev, hps⟩ := inner f hf
      refine ⟨ps, Ev.step (fun k => ?_) hev, hps⟩
      rw [frisketlaw09_patterns.j2]
      rfl
    by_cases h11 : Int.tmod (IntKind.u64.wrap l[i]) 11 = 0
    · obtain ⟨ps, hev, hps⟩ := h2 [46] (.inr rfl)
      refine ⟨ps, Ev.step (fun k => ?_) (Ev.step (g := fun k => frisketlaw09_patterns.j1 k l (acc.map B) (i : Int) true) (fun k => ?_) hev), hps⟩
      · rw [frisketlaw09_patterns.l0, if_pos (by omega), decide_eq_true (by omega)]
      · rw [frisketlaw09_patterns.j1, if_pos rfl, if_pos (by omega), if_pos (by omega), rd_at l i h1, if_pos h11]
        rfl
    · obtain ⟨ps, hev, hps⟩ := h2 [] (.inl rfl)
      refine ⟨ps, Ev.step (fun k => ?_) (Ev.step (g := fun k => frisketlaw09_patterns.j1 k l (acc.map B) (i : Int) true) (fun k => ?_) hev), hps⟩
      · rw [frisketlaw09_patterns.l0, if_pos (by omega), decide_eq_true (by omega)]
      · rw [frisketlaw09_patterns.j1, if_pos rfl, if_pos (by omega), if_pos (by omega), rd_at l i h1, if_neg h11]
        rfl
theorem pats_ev (l : List Int) : ∃ ps : List (List UInt8), Ev (fun k => frisketlaw09_patterns.f k l) (ps.map B) ∧ ps.length ≤ 40 ∧ ∀ p ∈ ps, GoodP p := by
  obtain ⟨ps, h, hps⟩ := pats_l0 l (min 40 l.length) 0 (by omega) [] rfl (fun p hp => by cases hp)
  exact ⟨ps, h, hps⟩
theorem good_short {ps : List (List UInt8)} (h1 : ps.length ≤ 40) (h2 : ∀ p ∈ ps, GoodP p) : Short ps := ⟨by omega, fun p hp => by have := (h2 p hp).1; omega⟩
theorem good_pats : ∀ {ps : List (List UInt8)}, (∀ p ∈ ps, GoodP p) → (patsOf ps).isSome = true
  | [], _ => rfl
  | p :: ps, h => by
    have h1 := (h p (List.mem_cons_self ..)).2
    have h2 := good_pats (ps := ps) (fun q hq => h q (List.mem_cons_of_mem _ hq))
    rw [patsOf]
    cases e1 : patOf p with
    | none => rw [e1] at h1; cases h1
    | some x =>
      cases e2 : patsOf ps with
      | none => rw [e2] at h2; cases h2
      | some q => rfl
end Go.Proofs.YtmjglgbkigjfkaaDoor.Pure

namespace Go.Proofs.YtmjglgbkigjfkaaDoor.Pure
open Go.RowKit Go.Proofs.YtmjglgbkigjfkaaDoor Go.Proofs.YtmjglgbkigjfkaaDoor.Xa Go.Proofs.YtmjglgbkigjfkaaDoorW.PrintWords Go.Proofs.YtmjglgbkigjfkaaDoorW.PrintLast Go.Proofs.YtmjglgbkigjfkaaDoorW.PrintMore
/-- All points of a word, ahead of the edges. -/
def allPts (w : List UInt8) (ps : List (List UInt8)) : List Nat := odds (valS (lowS w) ((patsOf ps).getD [])) w.length
theorem good_chk {ps : List (List UInt8)} (h1 : ps.length ≤ 40) (h2 : ∀ p ∈ ps, GoodP p) : chk ps [] = 0 := by
  unfold chk
  rw [if_neg (by simp; omega), if_pos (good_pats h2)]
  rfl
theorem good_points (w : List UInt8) (hw : wordS w = true) {ps : List (List UInt8)} (h1 : ps.length ≤ 40) (h2 : ∀ p ∈ ps, GoodP p) (a b : Int) (ha : 1 ≤ a ∧ a ≤ 10) (hb : 1 ≤ b ∧ b ≤ 10) :
    pointsR w ps [] a b = (ints ((allPts w ps).filter (far a.toNat b.toNat w.length)), 0) := by
  unfold pointsR
  rw [if_pos (good_chk h1 h2), if_pos ⟨hw, ha, hb⟩]
  rfl
end Go.Proofs.YtmjglgbkigjfkaaDoor.Pure

namespace Go.Proofs.YtmjglgbkigjfkaaDoor.Pure
open Go.RowKit Go.Proofs.YtmjglgbkigjfkaaDoor Go.Proofs.YtmjglgbkigjfkaaDoor.Xa Go.Proofs.YtmjglgbkigjfkaaDoorW.PrintWords Go.Proofs.YtmjglgbkigjfkaaDoorW.PrintLast Go.Proofs.YtmjglgbkigjfkaaDoorW.PrintMore
def LeL (a b : List Int) : Prop := ∀ j : Nat, a.getD j 0 ≤ b.getD j 0
theorem mx_ge (a b : Int) : a ≤ mx a b := by unfold mx; split <;> omega
theorem set_ge (all : List Int) (p : Nat) (y : Int) (h : all.getD p 0 ≤ y) : LeL all (all.set p y) := by
  intro j
  rw [List.getD_eq_getElem?_getD, List.getD_eq_getElem?_getD, List.getElem?_set]
  by_cases e : p = j
  · subst e
    rw [if_pos rfl]
    by_cases hl : p < all.length
    · rw [if_pos hl]
      rw [List.getD_eq_getElem?_getD] at h
      exact h
    · rw [if_neg hl, List.getElem?_eq_none (by omega)]
      exact Int.le_refl _
  · rw [if_neg e]
    exact Int.le_refl _
theorem LeL.trans {a b c : List Int} (h1 : LeL a b) (h2 : LeL b c) : LeL a c := fun j => Int.le_trans (h1 j) (h2 j)
theorem putV_ge : ∀ (v all : List Int) (a i : Nat), LeL all (putV all a i v)
  | [], _, _, _ => fun _ => Int.le_refl _
  | x :: v, all, a, i => (set_ge all (a + i) _ (mx_ge _ x)).trans (putV_ge v _ a (i + 1))
theorem valAt_ge (fr t : List UInt8) (v : List Int) : ∀ (d a : Nat) (all : List Int), LeL all (valAt fr t v d a all)
  | 0, _, _ => fun _ => Int.le_refl _
  | d + 1, a, all => by
    rw [valAt]
    refine LeL.trans ?_ (valAt_ge fr t v d (a + 1) _)
    split
    · exact putV_ge v all a 0
    · exact fun _ => Int.le_refl _
theorem valsAll_ge (fr : List UInt8) : ∀ (q : List (List UInt8 × List Int)) (all : List Int), LeL all (valsAll fr q all)
  | [], _ => fun _ => Int.le_refl _
  | x :: q, all => (valAt_ge fr x.1 x.2 _ 0 all).trans (valsAll_ge fr q _)
theorem valsAll_append (fr : List UInt8) : ∀ (q r : List (List UInt8 × List Int)) (all : List Int), valsAll fr (q ++ r) all = valsAll fr r (valsAll fr q all)
  | [], _, _ => rfl
  | x :: q, r, all => by rw [List.cons_append, valsAll, valsAll, valsAll_append fr q r]
theorem cut_ge {a b : List Int} (h : LeL a b) (n : Nat) : LeL ((a.take n).drop 1) ((b.take n).drop 1) := by
  intro j
  have hj := h (1 + j)
  rw [List.getD_eq_getElem?_getD, List.getD_eq_getElem?_getD] at hj ⊢
  rw [List.getElem?_drop, List.getElem?_drop]
  by_cases hn : 1 + j < n
  · rw [List.getElem?_take_of_lt hn, List.getElem?_take_of_lt hn]
    exact hj
  · rw [List.getElem?_take_eq_none (by omega), List.getElem?_take_eq_none (by omega)]
    exact Int.le_refl _
theorem valS_ge (w : List UInt8) (q r : List (List UInt8 × List Int)) : LeL (valS w q) (valS w (q ++ r)) := by
  unfold valS
  rw [valsAll_append]
  exact cut_ge (valsAll_ge (frame w) r _) _
theorem patsOf_append : ∀ (a b : List (List UInt8)) (x y : List (List UInt8 × List Int)), patsOf a = some x → patsOf b = some y → patsOf (a ++ b) = some (x ++ y)
  | [], b, x, y, h1, h2 => by
    rw [patsOf] at h1
    cases h1
    exact h2
  | p :: a, b, x, y, h1, h2 => by
    rw [List.cons_append, patsOf]
    rw [patsOf] at h1
    cases e1 : patOf p with
    | none => rw [e1] at h1; cases h1
    | some u =>
      cases e2 : patsOf a with
      | none => rw [e1, e2] at h1; cases h1
      | some z =>
        rw [e1, e2] at h1
        cases h1
        rw [patsOf_append a b z y e2 h2]
        rfl
theorem good_some {ps : List (List UInt8)} (h : ∀ p ∈ ps, GoodP p) : ∃ q, patsOf ps = some q := Option.isSome_iff_exists.1 (good_pats h)
theorem no_points (w : List UInt8) : allPts w [] = [] := by
  unfold allPts odds
  rw [List.filter_eq_nil_iff]
  intro i _
  have e : valS (lowS w) ((patsOf []).getD []) = ((List.replicate ((lowS w).length + 3) (0 : Int)).take ((lowS w).length + 2)).drop 1 := rfl
  have z : (valS (lowS w) ((patsOf []).getD [])).getD i 0 = 0 := by
    rw [e, List.getD_eq_getElem?_getD, List.getElem?_drop]
    by_cases hn : 1 + i < (lowS w).length + 2
    · rw [List.getElem?_take_of_lt hn, List.getElem?_replicate, if_pos (by omega)]
      rfl
    · rw [List.getElem?_take_eq_none (by omega)]
      rfl
  rw [z]
  decide
theorem more_l (w : List UInt8) (hww : wordS w = true) (hw : w.length ≤ 60) (a b : List Int) (hl : a.length = b.length) (ha : a.length ≤ 1048576) (hle : LeL a b) : ∀ (d i : Nat), i + d = a.length →
    Ev (fun k => frisketlaw09_HyphenMore.l0 k (B w) a b (i : Int)) true
  | 0, i, hi => by
    have hp := Points_f w (by omega) [] [] short_nil short_nil 1 1
    rw [good_points w hww (by simp) (fun p hp => by cases hp) 1 1 (by omega) (by omega), no_points] at hp
    refine Ev.step (fun k => ?_) (Ev.bind (f := fun k (bt397 : List Int × Int) => if bt397.2 = 0 then (if (bt397.1.length : Int) = 0 then ((frisketlaw09_sane.f k).bind fun t401 => (some t401)) else (some false)) else (some false)) hp (Ev.congr (fun k => (if_pos rfl).trans (if_pos rfl)) (Ev.bind (f := fun _ (t : Bool) => some t) sane_ev (Ev.now true))))
    rw [frisketlaw09_HyphenMore.l0, if_neg (by omega)]
    rfl
  | d + 1, i, hi => by
    have h1 : i < a.length := by omega
    have hj := hle i
    refine Ev.step (fun k => ?_) (more_l w hww hw a b hl ha hle d (i + 1) (by omega))
    rw [frisketlaw09_HyphenMore.l0, if_pos (by omega), if_pos (by omega), if_pos (by omega), mul_rd, mul_rd, if_neg (by omega), w64s h1 (by omega)]
theorem HyphenMore_ev (l f m : List Int) : ∃ k, frisketlaw09_HyphenMore.f k l f m = some true := by
  have hw := wordL_length l
  have hww := wordL_word l
  obtain ⟨ps, hev, h1, h2⟩ := pats_ev f
  obtain ⟨ps2, hev2, h3, h4⟩ := pats_ev m
  obtain ⟨q, hq⟩ := good_some h2
  obtain ⟨r, hr⟩ := good_some h4
  have hqr := patsOf_append ps ps2 q r hq hr
  have h12 : (ps ++ ps2).length ≤ 80 := by rw [List.length_append]; omega
  have hs2 : Short (ps ++ ps2) := ⟨by omega, fun p hp => by
    rcases List.mem_append.1 hp with hp | hp
    · have := (h2 p hp).1; omega
    · have := (h4 p hp).1; omega⟩
  have hv1 := Values_f (wordL l) (by omega) ps (good_short h1 h2)
  have hv2 := Values_f (wordL l) (by omega) (ps ++ ps2) hs2
  have e1 : valuesR (wordL l) ps = (valS (lowS (wordL l)) q, 0) := by
    unfold valuesR
    rw [if_neg (by omega), hq]
    exact if_pos hww
  have e2 : valuesR (wordL l) (ps ++ ps2) = (valS (lowS (wordL l)) (q ++ r), 0) := by
    unfold valuesR
    rw [if_neg (by omega), hqr]
    exact if_pos hww
  rw [e1] at hv1
  rw [e2] at hv2
  have l1 : (valS (lowS (wordL l)) q).length = (wordL l).length + 1 := by rw [valS_length, lowS_length]
  have l2 : (valS (lowS (wordL l)) (q ++ r)).length = (wordL l).length + 1 := by rw [valS_length, lowS_length]
  have hl := more_l (wordL l) hww hw.2 _ _ (l1.trans l2.symm) (by omega) (valS_ge (lowS (wordL l)) q r) _ 0 (Nat.zero_add _)
  have hj : Ev (fun k => frisketlaw09_HyphenMore.j0 k (B (wordL l)) (valS (lowS (wordL l)) q) (valS (lowS (wordL l)) (q ++ r)) (((valS (lowS (wordL l)) (q ++ r)).length : Int) != ((valS (lowS (wordL l)) q).length : Int))) true := by
    refine Ev.step (fun k => ?_) hl
    rw [frisketlaw09_HyphenMore.j0, if_neg (by rw [l1, l2]; simp)]
    rfl
  have hh : Ev (fun k => frisketlaw09_HyphenMore.f k l f m) true := by
    have hm : (ps ++ ps2).map B = ([] ++ ps.map B) ++ ps2.map B := by rw [List.map_append]; rfl
    rw [hm] at hv2
    refine Ev.bind (f := fun k t371 => (frisketlaw09_patterns.f k f).bind fun t372 => ((hyphen_Values.f k t371 t372).bind fun bt375 => ((some (([] : List ByteArray) : List ByteArray)).bind fun y379 => (if y379.length + t372.length < 8796093022208 then ((some (y379 ++ t372 : List ByteArray)).bind fun y382 => ((frisketlaw09_patterns.f k m).bind fun t385 => (if y382.length + t385.length < 8796093022208 then ((hyphen_Values.f k t371 (y382 ++ t385)).bind fun bt391 => (if bt375.2 = 0 then (if bt391.2 = 0 then (if (bt375.1.length : Int) = (wrap64 ((t371.size : Int) + 1)) then (frisketlaw09_HyphenMore.j0 k t371 bt375.1 bt391.1 ((bt391.1.length : Int) != (bt375.1.length : Int))) else (frisketlaw09_HyphenMore.j0 k t371 bt375.1 bt391.1 true)) else (frisketlaw09_HyphenMore.j0 k t371 bt375.1 bt391.1 true)) else (frisketlaw09_HyphenMore.j0 k t371 bt375.1 bt391.1 true))) else (none)))) else (none))))) (word_ev l) ?_
    refine Ev.bind hev (Ev.bind hv1 ?_)
    have g1 : (([] : List ByteArray).length + (ps.map B).length) < 8796093022208 := by rw [List.length_map, List.length_nil]; omega
    have g2 : (([] ++ ps.map B : List ByteArray).length + (ps2.map B).length) < 8796093022208 := by rw [List.nil_append, List.length_map, List.length_map]; omega
    refine Ev.congr (fun k => if_pos g1) (Ev.bind (g := fun _ => some ([] ++ ps.map B : List ByteArray)) (Ev.now _) (Ev.bind hev2 (Ev.congr (fun k => if_pos g2) (Ev.bind hv2 (Ev.congr (fun k => (if_pos rfl).trans ((if_pos rfl).trans (if_pos ?_))) hj)))))
    rw [size_B, l1, w64 (by omega) (by omega)]
    omega
  exact hh.rounds
end Go.Proofs.YtmjglgbkigjfkaaDoor.Pure

