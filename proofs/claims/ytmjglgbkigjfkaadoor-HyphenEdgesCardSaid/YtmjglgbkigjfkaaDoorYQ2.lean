/- Layer 9 (hyphen), the plain law, part 3: the reference's split reads patterns as hyphen.read does. -/
import Derived.Test.YtmjglgbkigjfkaaDoorYQ1
import Derived.Test.YtmjglgbkigjfkaaDoorYa0
import Derived.Test.YtmjglgbkigjfkaaDoorYa4
import Derived.Test.YtmjglgbkigjfkaaDoorYa16
import Derived.Test.YtmjglgbkigjfkaaDoorYa17
import Derived.Test.YtmjglgbkigjfkaaDoorYa28
import Derived.Test.YtmjglgbkigjfkaaDoorYa5
import Derived.Test.YtmjglgbkigjfkaaDoorYa6
import Derived.Test.YtmjglgbkigjfkaaDoorYa18
set_option linter.unusedVariables false
set_option linter.unusedSimpArgs false
namespace Go.Proofs.YtmjglgbkigjfkaaDoor.Pure
open Go.RowKit Go.Proofs.YtmjglgbkigjfkaaDoor Go.Proofs.YtmjglgbkigjfkaaDoor.Xa Go.Proofs.YtmjglgbkigjfkaaDoorW.PrintWords Go.Proofs.YtmjglgbkigjfkaaDoorW.PrintLast Go.Proofs.YtmjglgbkigjfkaaDoorW.PrintMore
theorem split_tail {α : Type} (l t : List UInt8) (i : Nat) (hi : i < l.length) (hn : l.length ≤ 1048576) (hq : 1 < i → ¬ l.getD (i - 1) 0 = 46) (C F : Option α) :
  (if (B t).toList = ([] : List UInt8) then (if 0 ≤ (i : Int) then (if (i : Int) < ((B l).size : Int) then C else none) else none) else (if (i : Int) > 0 then (if 0 ≤ wrap64 ((i : Int) - 1) then (if wrap64 ((i : Int) - 1) < ((B l).size : Int) then (if bt (B l) (wrap64 ((i : Int) - 1)) = 46 then (if (i : Int) > 1 then F else (if 0 ≤ (i : Int) then (if (i : Int) < ((B l).size : Int) then C else none) else none)) else (if 0 ≤ (i : Int) then (if (i : Int) < ((B l).size : Int) then C else none) else none)) else none) else none) else (if 0 ≤ (i : Int) then (if (i : Int) < ((B l).size : Int) then C else none) else none))) = C := by
 have h0 : 0 ≤ (i : Int) := by omega
 have h1 : (i : Int) < ((B l).size : Int) := by rw [size_B]; omega
 rw [if_pos h0, if_pos h1]
 by_cases ht : (B t).toList = ([] : List UInt8)
 ·rw [if_pos ht]
 ·rw [if_neg ht]
  by_cases hz : i = 0
  ·rw [if_neg (by omega)]
  ·rw [if_pos (by omega)]
   have e : wrap64 ((i : Int) - 1) = ((i - 1 : Nat) : Int) := by rw [w64 (by omega) (by omega)]; omega
   rw [e, if_pos (by omega), if_pos (by rw [size_B]; omega), bt_D l (i - 1) (by omega)]
   by_cases h46 : l.getD (i - 1) 0 = 46
   ·rw [if_pos ((eq46 _).2 h46), if_neg (fun h => hq (by omega) h46)]
   ·rw [if_neg (fun h => h46 ((eq46 _).1 h))]
theorem split_j1_dig (l : List UInt8) (hn : l.length ≤ 1048576) (k m g i : Nat) (t : List UInt8) (v : List Int) (hi : i < l.length) (hv : v.length ≤ i) (hq : 1 < i → ¬ l.getD (i - 1) 0 = 46) (c : UInt8) (hc : c = l.getD i 0) (hd : digB c = true)
  (hz : ¬ (i = 0 ∧ 1 < l.length ∧ l.getD 1 0 = 46)) :
  frisketref09_split.j1 (k + 1) (B l) (B t) (v ++ [(g : Int)]) (m : Int) (i : Int) true = if g = 0 then frisketref09_split.l0 k (B l) (B t) (v ++ [((c.toNat - 48 : Nat) : Int)]) (m : Int) ((i + 1 : Nat) : Int) else some (⟨#[]⟩, [], false) := by
 have hd' := of_decide_eq_true hd
 have el : (((v ++ [(g : Int)]).length : Int) - 1) = (v.length : Int) := by rw [List.length_append, List.length_singleton]; omega
 have ew : wrap64 (((v ++ [(g : Int)]).length : Int) - 1) = (v.length : Int) := by rw [el, w64 (by omega) (by omega)]
 have er : rd (v ++ [(g : Int)]) (v.length : Int) = (g : Int) := by unfold rd; simp
 have es : (v ++ [(g : Int)]).set ((v.length : Int)).toNat ((bt (B l) (i : Int) - 48) % 256) = v ++ [((c.toNat - 48 : Nat) : Int)] := by
  rw [Int.toNat_natCast, List.set_append_right _ _ (Nat.le_refl _), Nat.sub_self, List.set_cons_zero, bt_D l i hi, ← hc]
  congr 2
  omega
 rw [frisketref09_split.j1, if_pos rfl, ew, if_pos (by omega), if_pos (by rw [List.length_append, List.length_singleton]; omega), er, es, w64s hi (by omega)]
 by_cases hg : g = 0
 ·rw [if_pos (by omega), if_pos hg]
  by_cases h0 : i = 0
  ·rw [if_pos (by omega)]
   by_cases h1 : 1 < l.length
   ·have hb1 : bt (B l) 1 = ((l.getD 1 0).toNat : Int) := bt_D l 1 h1
    rw [if_pos (by rw [size_B]; omega), if_pos (by rw [size_B]; omega), hb1, if_neg (fun e => hz ⟨h0, h1, (eq46 _).1 e⟩)]
    exact split_tail l t i hi hn hq _ _
   ·rw [if_neg (by rw [size_B]; omega)]
    exact split_tail l t i hi hn hq _ _
  ·rw [if_neg (by omega)]
   exact split_tail l t i hi hn hq _ _
 ·rw [if_neg (by omega), if_neg hg]
theorem split_letter {α : Type} (l : List UInt8) (hn : l.length ≤ 1048576) (i : Nat) (t : List UInt8) (w : List Int) (hi : i < l.length) (ht : t.length ≤ i) (hv : w.length ≤ i + 1) (c : UInt8) (hc : c = l.getD i 0) (C : ByteArray → Int → Option α) :
  (if (i : Int) ≤ ((i + 1 : Nat) : Int) then (if ((i + 1 : Nat) : Int) ≤ ((B l).size : Int) then (if (B t).size + ((B l).extract ((i : Int)).toNat (((i + 1 : Nat) : Int)).toNat).size ≤ 9223372036854775807 then (if w.length < 17592186044416 then C (B t ++ (B l).extract ((i : Int)).toNat (((i + 1 : Nat) : Int)).toNat) ((i + 1 : Nat) : Int) else none) else none) else none) else none) = C (B (t ++ [c])) ((i + 1 : Nat) : Int) := by
 rw [take1D l i hi, ← hc, if_pos (by omega), if_pos (by rw [size_B]; omega), if_pos (by rw [size_B, size_B, List.length_singleton]; omega), if_pos (by omega), append_B]
theorem split_l (l : List UInt8) (hn : l.length ≤ 1048576) : ∀ (d i m g : Nat) (t : List UInt8) (v : List Int), i + d = l.length → t.length ≤ i → v.length ≤ i → m ≤ i → g ≤ 9 → (∀ j, 0 < j → j < i → j + 1 < l.length → ¬ l.getD j 0 = 46) →
  ∃ r, Ev (fun k => frisketref09_split.l0 k (B l) (B t) (v ++ [(g : Int)]) (m : Int) (i : Int)) r ∧ Tells (patS l d i m g t v) r
 | 0, i, m, g, t, v, hi, ht, hv, hm, hg, hq => by
  refine ⟨(B t, v ++ [(g : Int)], decide (1 ≤ m ∧ m ≤ 15)), Ev.step (f := fun _ => some _) (fun k => ?_) (Ev.now _), ?_⟩
  ·rw [frisketref09_split.l0, if_neg (by rw [size_B]; omega)]
   by_cases h1 : 1 ≤ m
   ·rw [if_pos (by omega)]
    have e : decide ((m : Int) ≤ 15) = decide (1 ≤ m ∧ m ≤ 15) := by rw [decide_eq_decide]; omega
    rw [e]
   ·rw [if_neg (by omega)]
    have e : false = decide (1 ≤ m ∧ m ≤ 15) := (decide_eq_false (by omega)).symm
    rw [← e]
  ·unfold Tells patS
   dsimp only
   split
   ·rename_i h; rw [decide_eq_true h]
   ·rename_i h; exact decide_eq_false h
 | d + 1, i, m, g, t, v, hi, ht, hv, hm, hg, hq => by
  have hlt : i < l.length := by omega
  have h1 : ((i : Int) < ((B l).size : Int)) := by rw [size_B]; omega
  obtain ⟨c, hc⟩ : ∃ c, c = l.getD i 0 := ⟨_, rfl⟩
  have hb : bt (B l) (i : Int) = (c.toNat : Int) := by rw [bt_D l i hlt, hc]
  have hhead : ∀ k, frisketref09_split.l0 (k + 1) (B l) (B t) (v ++ [(g : Int)]) (m : Int) (i : Int) = frisketref09_split.j1 k (B l) (B t) (v ++ [(g : Int)]) (m : Int) (i : Int) (digB c) := by
   intro k
   rw [frisketref09_split.l0, if_pos h1, if_pos (by omega), hb]
   by_cases h49 : 49 ≤ c.toNat
   ·rw [if_pos (by omega)]
    have e : decide ((c.toNat : Int) ≤ 57) = digB c := by unfold digB; rw [decide_eq_decide]; omega
    rw [e]
   ·rw [if_neg (by omega)]
    have e : digB c = false := decide_eq_false (by omega)
    rw [e]
  have hgoal : ∀ r, Ev (fun k => frisketref09_split.j1 k (B l) (B t) (v ++ [(g : Int)]) (m : Int) (i : Int) (digB c)) r → Ev (fun k => frisketref09_split.l0 k (B l) (B t) (v ++ [(g : Int)]) (m : Int) (i : Int)) r := fun r h => Ev.step hhead h
  have hq1 : 1 < i → ¬ l.getD (i - 1) 0 = 46 := fun h => hq (i - 1) (by omega) (by omega) (by omega)
  have hlen : (v ++ [(g : Int)]).length ≤ i + 1 := by rw [List.length_append, List.length_singleton]; omega
  by_cases hd : digB c = true
  ·rw [hd] at hgoal
   by_cases hz : i = 0 ∧ 1 < l.length ∧ l.getD 1 0 = 46
   ·obtain ⟨h0, h1n, h46⟩ := hz
    have hb1 : bt (B l) 1 = ((l.getD 1 0).toNat : Int) := bt_D l 1 h1n
    have hm0 : m = 0 := by omega
    subst h0 hm0
    have hv0 : v = [] := List.length_eq_zero_iff.1 (by omega)
    subst hv0
    by_cases hg0 : g = 0
    ·subst hg0
     refine ⟨(⟨#[]⟩, [], false), hgoal _ (Ev.step (f := fun _ => some _) (fun k => ?_) (Ev.now _)), ?_⟩
     ·have ew : wrap64 ((([] ++ [((0 : Nat) : Int)] : List Int).length : Int) - 1) = 0 := by rw [List.nil_append, List.length_singleton, w64 (by omega) (by omega)]; rfl
      rw [frisketref09_split.j1, if_pos rfl, ew, if_pos (by decide), if_pos (by rw [List.nil_append, List.length_singleton]; decide), if_pos (by rfl), if_pos (by decide), if_pos (by rw [size_B]; omega), if_pos (by rw [size_B]; omega), hb1, if_pos ((eq46 _).2 h46)]
     ·unfold patS
      rw [← hc, if_pos hd, if_pos rfl]
      cases d with
      | zero => omega
      | succ d' =>
       unfold patS
       rw [h46, if_neg (by decide), if_neg (by decide)]
       by_cases hl2 : 0 + 1 + 1 = l.length
       ·rw [if_pos ⟨rfl, .inr hl2⟩]
        have : d' = 0 := by omega
        subst this
        unfold patS Tells
        dsimp only
        rw [if_neg (by omega)]
       ·rw [if_neg (fun h => by rcases h.2 with h | h <;> omega)]
        rfl
    ·refine ⟨(⟨#[]⟩, [], false), hgoal _ (Ev.step (f := fun _ => some _) (fun k => ?_) (Ev.now _)), ?_⟩
     ·have ew : wrap64 ((([] ++ [(g : Int)] : List Int).length : Int) - 1) = 0 := by rw [List.nil_append, List.length_singleton, w64 (by omega) (by omega)]; rfl
      have er : rd ([] ++ [(g : Int)]) 0 = (g : Int) := rfl
      rw [frisketref09_split.j1, if_pos rfl, ew, if_pos (by decide), if_pos (by rw [List.nil_append, List.length_singleton]; decide), er, if_neg (by omega)]
     ·unfold patS
      rw [← hc, if_pos hd, if_neg hg0]
      rfl
   ·have hj := fun k => split_j1_dig l hn k m g i t v hlt hv hq1 c hc hd hz
    unfold patS
    rw [← hc, if_pos hd]
    by_cases h0 : g = 0
    ·rw [if_pos h0]
     obtain ⟨r, hr, ht'⟩ := split_l l hn d (i + 1) m (c.toNat - 48) t v (by omega) (by omega) (by omega) (by omega) (by have := of_decide_eq_true hd; omega) (fun j h1 h2 h3 => by
      by_cases e : j = i
      ·subst e
       rw [← hc]
       intro e2
       subst e2
       revert hd
       decide
      ·exact hq j h1 (by omega) h3)
     refine ⟨r, hgoal r (Ev.step (fun k => ?_) hr), ht'⟩
     rw [hj, if_pos h0]
    ·rw [if_neg h0]
     refine ⟨(⟨#[]⟩, [], false), hgoal _ (Ev.step (f := fun _ => some _) (fun k => ?_) (Ev.now _)), rfl⟩
     rw [hj, if_neg h0]
  ·rw [Bool.eq_false_iff.2 hd] at hgoal
   unfold patS
   rw [← hc, if_neg hd]
   have hstep : ∀ (m' : Nat), m' ≤ i + 1 → ¬ (0 < i ∧ i + 1 < l.length ∧ c = 46) → ∃ r, Ev (fun k => frisketref09_split.l0 k (B l) (B (t ++ [c])) ((v ++ [(g : Int)]) ++ [((0 : Nat) : Int)]) (m' : Int) ((i + 1 : Nat) : Int)) r ∧ Tells (patS l d (i + 1) m' 0 (t ++ [c]) (v ++ [(g : Int)])) r := fun m' hm' hno =>
    split_l l hn d (i + 1) m' 0 (t ++ [c]) (v ++ [(g : Int)]) (by omega) (by rw [List.length_append, List.length_singleton]; omega) (by omega) hm' (by omega) (fun j j1 j2 j3 => by
     by_cases e : j = i
     ·subst e
      rw [← hc]
      exact fun e2 => hno ⟨j1, j3, e2⟩
     ·exact hq j j1 (by omega) j3)
   by_cases hs : smallB c = true
   ·rw [if_pos hs]
    obtain ⟨r, hr, ht'⟩ := hstep (m + 1) (by omega) (fun h => small_not46 hs h.2.2)
    refine ⟨r, hgoal r (Ev.step (fun k => ?_) hr), ht'⟩
    rw [frisketref09_split.j1, if_neg Bool.false_ne_true, if_pos (by omega), if_pos h1, hb, rsmall_f, hs, Option.bind_some, if_pos rfl, w64s hlt (by omega), w64 (x := (m : Int) + 1) (by omega) (by omega)]
    exact split_letter l hn i t (v ++ [(g : Int)]) hlt ht hlen c hc (fun x y => frisketref09_split.l0 k (B l) x ((v ++ [(g : Int)]) ++ [0]) ((m : Int) + 1) y)
   ·rw [if_neg hs]
    by_cases h46 : c = 46
    ·by_cases hp : i = 0 ∨ i + 1 = l.length
     ·rw [if_pos ⟨h46, hp⟩]
      obtain ⟨r, hr, ht'⟩ := hstep m (by omega) (fun h => by rcases hp with hp | hp <;> omega)
      refine ⟨r, hgoal r (Ev.step (fun k => ?_) hr), ht'⟩
      rw [frisketref09_split.j1, if_neg Bool.false_ne_true, if_pos (by omega), if_pos h1, hb, rsmall_f, Bool.eq_false_iff.2 hs, Option.bind_some, if_neg Bool.false_ne_true, if_pos ((eq46 c).2 h46), w64s hlt (by omega)]
      by_cases hi0 : i = 0
      ·rw [if_pos (by omega)]
       exact split_letter l hn i t (v ++ [(g : Int)]) hlt ht hlen c hc (fun x y => frisketref09_split.l0 k (B l) x ((v ++ [(g : Int)]) ++ [0]) (m : Int) y)
      ·rw [if_neg (by omega), size_B, w64 (x := (l.length : Int) - 1) (by omega) (by omega), if_pos (by omega), ← size_B l]
       exact split_letter l hn i t (v ++ [(g : Int)]) hlt ht hlen c hc (fun x y => frisketref09_split.l0 k (B l) x ((v ++ [(g : Int)]) ++ [0]) (m : Int) y)
     ·rw [if_neg (fun h => hp h.2)]
      refine ⟨(⟨#[]⟩, [], false), hgoal _ (Ev.step (f := fun _ => some _) (fun k => ?_) (Ev.now _)), rfl⟩
      rw [frisketref09_split.j1, if_neg Bool.false_ne_true, if_pos (by omega), if_pos h1, hb, rsmall_f, Bool.eq_false_iff.2 hs, Option.bind_some, if_neg Bool.false_ne_true, if_pos ((eq46 c).2 h46), if_neg (by omega), size_B, w64 (x := (l.length : Int) - 1) (by omega) (by omega), if_neg (by omega)]
    ·rw [if_neg (fun h => h46 h.1)]
     refine ⟨(⟨#[]⟩, [], false), hgoal _ (Ev.step (f := fun _ => some _) (fun k => ?_) (Ev.now _)), rfl⟩
     rw [frisketref09_split.j1, if_neg Bool.false_ne_true, if_pos (by omega), if_pos h1, hb, rsmall_f, Bool.eq_false_iff.2 hs, Option.bind_some, if_neg Bool.false_ne_true, if_neg (fun e => h46 ((eq46 c).1 e))]
theorem split_f (l : List UInt8) (hn : l.length ≤ 1048576) : ∃ r, Ev (fun k => frisketref09_split.f k (B l)) r ∧ Tells (patS l l.length 0 0 0 [] []) r := by
 obtain ⟨r, hr, ht⟩ := split_l l hn l.length 0 0 0 [] [] (by omega) (by simp) (by simp) (by omega) (by omega) (fun j h1 h2 => by omega)
 exact ⟨r, hr, ht⟩
/-- The readings of a pattern: its letters and values, if it is one. -/
def patOf (l : List UInt8) : Option (List UInt8 × List Int) :=
 match patS l l.length 0 0 0 [] [] with
 | none => none
 | some (m, t, v) => if 1 ≤ m ∧ m ≤ 15 then some (t, v) else none
def Told (o : Option (List UInt8 × List Int)) (r : ByteArray × List Int × Bool) : Prop :=
 match o with
 | none => r.2.2 = false
 | some (t, v) => r = (B t, v, true)
theorem told_of {l : List UInt8} {r : ByteArray × List Int × Bool} (h : Tells (patS l l.length 0 0 0 [] []) r) : Told (patOf l) r := by
 unfold patOf
 revert h
 cases patS l l.length 0 0 0 [] [] with
 | none => exact fun h => h
 | some x =>
  obtain ⟨m, t, v⟩ := x
  unfold Tells
  dsimp only
  intro h
  split
  ·rename_i hm; rw [if_pos hm] at h; exact h
  ·rename_i hm; rw [if_neg hm] at h; exact h
theorem read_t (l : List UInt8) (hn : l.length ≤ 1048576) : ∃ r, Ev (fun k => hyphen_read.f k (B l)) r ∧ Told (patOf l) r := by
 obtain ⟨r, hr, ht⟩ := read_f l hn
 exact ⟨r, hr, told_of ht⟩
theorem split_t (l : List UInt8) (hn : l.length ≤ 1048576) : ∃ r, Ev (fun k => frisketref09_split.f k (B l)) r ∧ Told (patOf l) r := by
 obtain ⟨r, hr, ht⟩ := split_f l hn
 exact ⟨r, hr, told_of ht⟩
theorem told_ok {o : Option (List UInt8 × List Int)} {r : ByteArray × List Int × Bool} (h : Told o r) : r.2.2 = o.isSome := by
 cases o with
 | none => exact h
 | some x => obtain ⟨t, v⟩ := x; unfold Told at h; dsimp only at h; rw [h]; rfl
theorem pattern_f (l : List UInt8) (hn : l.length ≤ 1048576) : Ev (fun k => hyphen_Pattern.f k (B l)) (patOf l).isSome := by
 obtain ⟨r, hr, ht⟩ := read_t l hn
 refine Ev.bind (f := fun _ (b : ByteArray × List Int × Bool) => some b.2.2) hr ?_
 rw [← told_ok ht]
 exact Ev.now _
theorem rpattern_f (l : List UInt8) (hn : l.length ≤ 1048576) : Ev (fun k => frisketref09_Pattern.f k (B l)) (patOf l).isSome := by
 obtain ⟨r, hr, ht⟩ := split_t l hn
 refine Ev.bind (f := fun _ (b : ByteArray × List Int × Bool) => some b.2.2) hr ?_
 rw [← told_ok ht]
 exact Ev.now _
end Go.Proofs.YtmjglgbkigjfkaaDoor.Pure
namespace Go.Proofs.YtmjglgbkigjfkaaDoor.Pure
open Go.RowKit Go.Proofs.YtmjglgbkigjfkaaDoor Go.Proofs.YtmjglgbkigjfkaaDoor.Xa Go.Proofs.YtmjglgbkigjfkaaDoorW.PrintWords Go.Proofs.YtmjglgbkigjfkaaDoorW.PrintLast Go.Proofs.YtmjglgbkigjfkaaDoorW.PrintMore
/-- A text without its dashes. -/
def nd (l : List UInt8) : List UInt8 := l.filter fun c => c != 45
theorem idx_cons (b : UInt8) (l : List UInt8) (h : b ≠ 45) : Lib.index (b :: l) [45] = if Lib.index l [45] == -1 then -1 else Lib.index l [45] + 1 := by
 rw [Lib.index_one, Lib.index_one, Lib.indexByte, if_neg (by simpa using h)]
theorem idx_hit (l : List UInt8) : Lib.index (45 :: l) [45] = 0 := by
 rw [Lib.index_one, Lib.indexByte, if_pos (by decide)]
theorem idx_nat (l : List UInt8) (h : ¬ (Lib.index l [45] == -1) = true) : ∃ i : Nat, Lib.index l [45] = i := by
 have h1 := Lib.index_ge l [45]
 have h2 : Lib.index l [45] ≠ -1 := fun e => h (beq_iff_eq.2 e)
 exact ⟨(Lib.index l [45]).toNat, by omega⟩
theorem repK_cons (b : UInt8) (l : List UInt8) (h : b ≠ 45) : ∀ n, Lib.replaceK [45] [] n (b :: l) = b :: Lib.replaceK [45] [] n l
 | 0 => rfl
 | n + 1 => by
  by_cases hi : (Lib.index l [45] == -1) = true
  ·have hb : (Lib.index (b :: l) [45] == -1) = true := by rw [idx_cons b l h, if_pos hi]; rfl
   rw [Lib.replaceK, if_pos hb, Lib.replaceK, if_pos hi]
  ·obtain ⟨i, e⟩ := idx_nat l hi
   have eb : Lib.index (b :: l) [45] = ((i + 1 : Nat) : Int) := by rw [idx_cons b l h, if_neg hi, e]; omega
   rw [Lib.replaceK_hit _ _ _ _ _ eb, Lib.replaceK_hit _ _ _ _ _ e]
   rfl
theorem repK_hit (l : List UInt8) (n : Nat) : Lib.replaceK [45] [] (n + 1) (45 :: l) = Lib.replaceK [45] [] n l := by
 rw [Lib.replaceK_hit _ _ _ _ 0 (idx_hit l)]
 rfl
theorem cnt_cons (b : UInt8) (l : List UInt8) (h : b ≠ 45) : ∀ f, Lib.countFrom [45] f (b :: l) = Lib.countFrom [45] f l
 | 0 => rfl
 | f + 1 => by
  by_cases hi : (Lib.index l [45] == -1) = true
  ·have hb : (Lib.index (b :: l) [45] == -1) = true := by rw [idx_cons b l h, if_pos hi]; rfl
   rw [Lib.countFrom, if_pos hb, Lib.countFrom, if_pos hi]
  ·obtain ⟨i, e⟩ := idx_nat l hi
   have eb : Lib.index (b :: l) [45] = ((i + 1 : Nat) : Int) := by rw [idx_cons b l h, if_neg hi, e]; omega
   have hb : ¬ (Lib.index (b :: l) [45] == -1) = true := by rw [eb]; intro e2; have := beq_iff_eq.1 e2; omega
   rw [Lib.countFrom, if_neg hb, Lib.countFrom, if_neg hi, eb, e]
   rfl
theorem cnt_hit (l : List UInt8) (f : Nat) : Lib.countFrom [45] (f + 1) (45 :: l) = 1 + Lib.countFrom [45] f l := by
 rw [Lib.countFrom, idx_hit, if_neg (by decide)]
 rfl
theorem rep_all : ∀ (l : List UInt8) (f : Nat), l.length < f → Lib.replaceK [45] [] (Lib.countFrom [45] f l) l = nd l
 | [], f, h => by
  cases f with
  | zero => exact absurd h (by simp)
  | succ f => rfl
 | b :: l, f, h => by
  by_cases hb : b = 45
  ·subst hb
   cases f with
   | zero => exact absurd h (by simp)
   | succ f =>
    rw [cnt_hit, Nat.add_comm, repK_hit, rep_all l f (by simp at h; omega)]
    rfl
  ·rw [cnt_cons b l hb, repK_cons b l hb, rep_all l f (by simp at h; omega)]
   unfold nd
   rw [List.filter_cons, if_pos (by simpa using hb)]
theorem replaceAll_nd (l : List UInt8) : Lib.replaceAll l [45] [] = nd l := by
 unfold Lib.replaceAll Lib.replace Lib.replaceNum
 rw [if_neg (by decide), if_pos (.inl (by decide))]
 exact rep_all l (l.length + 1) (by omega)
theorem rep_f (l : List UInt8) (hn : l.length ≤ 1048576) : strings_ReplaceAll.f (B l) (⟨#[45]⟩ : ByteArray) (⟨#[]⟩ : ByteArray) = some (B (nd l)) := by
 unfold strings_ReplaceAll.f
 have h0 : (⟨#[]⟩ : ByteArray).size = 0 := rfl
 have h1 : (⟨#[45]⟩ : ByteArray).size = 1 := rfl
 rw [if_pos ⟨by rw [size_B]; omega, by rw [h1]; omega, by rw [h0, size_B]; omega⟩, data_B]
 have e1 : (⟨#[45]⟩ : ByteArray).data.toList = [45] := rfl
 have e2 : (⟨#[]⟩ : ByteArray).data.toList = [] := rfl
 rw [e1, e2, replaceAll_nd]
 rfl
theorem nd_length (l : List UInt8) : (nd l).length ≤ l.length := List.length_filter_le _ _
theorem prefix_f (l : List UInt8) : strings_HasPrefix.f (B l) (⟨#[45]⟩ : ByteArray) = some (decide (l.head? = some 45)) := by
 have h1 : (⟨#[45]⟩ : ByteArray).size = 1 := rfl
 unfold strings_HasPrefix.f stringslite_HasPrefix.f
 rw [h1, size_B]
 cases l with
 | nil => rw [if_neg (by simp)]; rfl
 | cons b l =>
  rw [if_pos (by simp; omega), if_pos (by decide), if_pos (by simp; omega), show (((1 : Nat) : Int)).toNat = 1 from rfl, extract_B, toList_B, Option.bind_some]
  have : (⟨#[45]⟩ : ByteArray).toList = [45] := toList_B [45]
  rw [this]
  simp
  by_cases h : b = 45 <;> simp [h]
theorem suffix_f (l : List UInt8) (hn : l.length ≤ 1048576) : strings_HasSuffix.f (B l) (⟨#[45]⟩ : ByteArray) = some (decide (l.getLast? = some 45)) := by
 have h1 : (⟨#[45]⟩ : ByteArray).size = 1 := rfl
 unfold strings_HasSuffix.f stringslite_HasSuffix.f
 rw [h1, size_B]
 by_cases hl : l = []
 ·subst hl; rw [if_neg (by simp)]; rfl
 ·have hp : 0 < l.length := List.length_pos_iff.2 hl
  have e : wrap64 ((l.length : Int) - ((1 : Nat) : Int)) = ((l.length - 1 : Nat) : Int) := by rw [w64 (by omega) (by omega)]; omega
  rw [if_pos (by omega), e, if_pos (by omega), if_pos (by omega), Int.toNat_natCast, extract_B, toList_B, Option.bind_some]
  have : (⟨#[45]⟩ : ByteArray).toList = [45] := toList_B [45]
  rw [this]
  have e2 : (l.drop (l.length - 1)).take (l.length - (l.length - 1)) = [l.getLast hl] := by
   rw [List.drop_eq_getElem_cons (by omega), show l.length - (l.length - 1) = 1 by omega, List.getLast_eq_getElem]
   rfl
  rw [e2, List.getLast?_eq_some_getLast hl]
  by_cases h : l.getLast hl = 45 <;> simp [h]
theorem occ_iff (l : List UInt8) (i : Nat) : Lib.occAt l [45, 45] i = true ↔ l[i]? = some 45 ∧ l[i + 1]? = some 45 := by
 unfold Lib.occAt
 rw [show l[i + 1]? = (l.drop i)[1]? by simp, show l[i]? = (l.drop i)[0]? by simp]
 generalize l.drop i = m
 match m with
 | [] => simp
 | [a] => simp
 | a :: b :: m => simp; constructor <;> (rintro ⟨h1, h2⟩; exact ⟨h1.symm, h2.symm⟩)
theorem contains_iff (l : List UInt8) : Lib.contains l [45, 45] = true ↔ ∃ i : Nat, l[i]? = some (45 : UInt8) ∧ l[i + 1]? = some (45 : UInt8) := by
 unfold Lib.contains
 rw [decide_eq_true_eq]
 rcases Lib.index_spec l [45, 45] with ⟨e, h⟩ | ⟨i, e, hi, ho, _⟩
 ·rw [e]
  refine ⟨fun h' => absurd h' (by decide), fun ⟨i, h1, h2⟩ => ?_⟩
  have hl : i < l.length := by
   rcases Nat.lt_or_ge i l.length with h' | h'
   ·exact h'
   ·rw [List.getElem?_eq_none h'] at h1; cases h1
  have := h i (by omega)
  rw [(occ_iff l i).2 ⟨h1, h2⟩] at this
  cases this
 ·rw [e]
  exact ⟨fun _ => ⟨i, (occ_iff l i).1 ho⟩, fun _ => by omega⟩
/-- Exceptions, as hyphen.Exception asks. -/
def excB (l : List UInt8) : Bool :=
 (nd l).all smallB && (decide (1 ≤ (nd l).length ∧ (nd l).length ≤ 60) && (!decide (l.head? = some 45) && (!decide (l.getLast? = some 45) && !Lib.contains l [45, 45])))
theorem low_same_iff (c : UInt8) : ((smallB c || greatB c) = true ∧ lowB c = c) ↔ smallB c = true := by
 constructor
 ·rintro ⟨h, e⟩
  rw [← low_letter, e] at h
  exact h
 ·intro h
  refine ⟨by rw [h]; rfl, ?_⟩
  unfold lowB
  rw [if_neg (by have := of_decide_eq_true h; omega)]
theorem low_all (m : List UInt8) : ((m.all fun c => smallB c || greatB c) = true ∧ lowS m = m) ↔ m.all smallB = true := by
 unfold lowS
 induction m with
 | nil => simp
 | cons b m ih =>
  rw [List.all_cons, List.all_cons, List.map_cons, List.cons.injEq, Bool.and_eq_true, Bool.and_eq_true, ← ih, ← low_same_iff b]
  constructor
  ·rintro ⟨⟨h1, h2⟩, h3, h4⟩; exact ⟨⟨h1, h3⟩, h2, h4⟩
  ·rintro ⟨⟨h1, h3⟩, h2, h4⟩; exact ⟨⟨h1, h2⟩, h3, h4⟩
theorem exc_f (l : List UInt8) (hn : l.length ≤ 1048576) : hyphen_Exception.f (B l) = some (excB l) := by
 have hl := nd_length l
 unfold hyphen_Exception.f excB
 rw [rep_f l hn, Option.bind_some, low_f (nd l) (by omega)]
 have hc : strings_Contains.f (B l) (⟨#[45, 45]⟩ : ByteArray) = some (Lib.contains l [45, 45]) := by
  unfold strings_Contains.f
  rw [if_pos (by rw [size_B]; omega), data_B]
 by_cases h1 : ((nd l).all fun c => smallB c || greatB c) = true
 ·rw [if_pos h1, Option.bind_some]
  by_cases h2 : 1 ≤ (nd l).length ∧ (nd l).length ≤ 60
  ·rw [decide_eq_true h2, if_pos rfl, Option.bind_some, toList_B, toList_B]
   by_cases h3 : lowS (nd l) = nd l
   ·rw [if_pos h3, (low_all (nd l)).1 ⟨h1, h3⟩, prefix_f, Option.bind_some]
    by_cases h4 : l.head? = some 45
    ·rw [decide_eq_true h4, if_pos rfl]; rfl
    ·rw [decide_eq_false h4, if_neg Bool.false_ne_true, suffix_f l hn, Option.bind_some]
     by_cases h5 : l.getLast? = some 45
     ·rw [decide_eq_true h5, if_pos rfl]; rfl
     ·rw [decide_eq_false h5, if_neg Bool.false_ne_true, hc]; rfl
   ·have h6 : (nd l).all smallB = false := Bool.eq_false_iff.2 fun h => h3 ((low_all (nd l)).2 h).2
    rw [if_neg h3, h6] <;> rfl
  ·rw [decide_eq_false h2, if_neg Bool.false_ne_true, Bool.false_and, Bool.and_false]
 ·have h6 : (nd l).all smallB = false := Bool.eq_false_iff.2 fun h => h1 ((low_all (nd l)).2 h).1
  rw [if_neg h1, Option.bind_some, if_neg Bool.false_ne_true, h6] <;> rfl
def Good (l : List UInt8) (j : Nat) : Prop := smallB (l.getD j 0) = true ∨ (l.getD j 0 = 45 ∧ j ≠ 0 ∧ j + 1 ≠ l.length ∧ ¬ l.getD (j - 1) 0 = 45)
theorem eq45 (c : UInt8) : ((c.toNat : Int) = 45) ↔ c = 45 := by
 constructor
 ·intro h
  have e : (45 : UInt8).toNat = 45 := rfl
  have : c.toNat = (45 : UInt8).toNat := by omega
  exact UInt8.toNat_inj.1 this
 ·intro h; subst h; rfl
theorem rexc_l (l : List UInt8) (hn : l.length ≤ 1048576) : ∀ (d i m : Nat), i + d = l.length → m ≤ i →
  ∃ b, Ev (fun k => frisketref09_Exception.l0 k (B l) (m : Int) (i : Int)) b ∧ (b = true ↔ (∀ j, i ≤ j → j < l.length → Good l j) ∧ 1 ≤ m + ((l.drop i).filter smallB).length ∧ m + ((l.drop i).filter smallB).length ≤ 60)
 | 0, i, m, hi, hm => by
  refine ⟨decide (1 ≤ m ∧ m ≤ 60), Ev.step (f := fun _ => some _) (fun k => ?_) (Ev.now _), ?_⟩
  ·rw [frisketref09_Exception.l0, if_neg (by rw [size_B]; omega)]
   by_cases h1 : 1 ≤ m
   ·rw [if_pos (by omega)]
    have e : decide ((m : Int) ≤ 60) = decide (1 ≤ m ∧ m ≤ 60) := by rw [decide_eq_decide]; omega
    rw [e]
   ·rw [if_neg (by omega)]
    have e : false = decide (1 ≤ m ∧ m ≤ 60) := (decide_eq_false (by omega)).symm
    rw [← e]
  ·rw [decide_eq_true_eq, List.drop_of_length_le (by omega), List.filter_nil, List.length_nil, Nat.add_zero]
   exact ⟨fun h => ⟨fun j h1 h2 => by omega, h⟩, fun h => h.2⟩
 | d + 1, i, m, hi, hm => by
  have hlt : i < l.length := by omega
  have h1 : ((i : Int) < ((B l).size : Int)) := by rw [size_B]; omega
  have hb := bt_D l i hlt
  have hdrop : l.drop i = l.getD i 0 :: l.drop (i + 1) := by rw [List.drop_eq_getElem_cons hlt, getD_at l i hlt]
  have stop : ∀ {b : Bool}, b = false → ¬ Good l i → (b = true ↔ (∀ j, i ≤ j → j < l.length → Good l j) ∧ 1 ≤ m + ((l.drop i).filter smallB).length ∧ m + ((l.drop i).filter smallB).length ≤ 60) := by
   intro b hb' hg
   subst hb'
   exact ⟨fun h => (by cases h), fun h => absurd (h.1 i (Nat.le_refl _) hlt) hg⟩
  have go : ∀ {b : Bool} (m' : Nat), Good l i → m' + ((l.drop (i + 1)).filter smallB).length = m + ((l.drop i).filter smallB).length → (b = true ↔ (∀ j, i + 1 ≤ j → j < l.length → Good l j) ∧ 1 ≤ m' + ((l.drop (i + 1)).filter smallB).length ∧ m' + ((l.drop (i + 1)).filter smallB).length ≤ 60) → (b = true ↔ (∀ j, i ≤ j → j < l.length → Good l j) ∧ 1 ≤ m + ((l.drop i).filter smallB).length ∧ m + ((l.drop i).filter smallB).length ≤ 60) := by
   intro b m' hg he h
   rw [h, he]
   constructor
   ·rintro ⟨h2, h3⟩
    refine ⟨fun j h4 h5 => ?_, h3⟩
    by_cases e : j = i
    ·subst e; exact hg
    ·exact h2 j (by omega) h5
   ·rintro ⟨h2, h3⟩
    exact ⟨fun j h4 h5 => h2 j (by omega) h5, h3⟩
  by_cases hs : smallB (l.getD i 0) = true
  ·obtain ⟨b, hb2, hb3⟩ := rexc_l l hn d (i + 1) (m + 1) (by omega) (by omega)
   refine ⟨b, Ev.step (fun k => ?_) hb2, go (m + 1) (.inl hs) (by rw [hdrop, List.filter_cons, if_pos hs, List.length_cons]; omega) hb3⟩
   rw [frisketref09_Exception.l0, if_pos h1, if_pos (by omega), hb, rsmall_f, hs, Option.bind_some, if_pos rfl, w64s hlt (by omega), w64 (x := (m : Int) + 1) (by omega) (by omega)]
   rfl
  ·have hf : (l.drop i).filter smallB = (l.drop (i + 1)).filter smallB := by rw [hdrop, List.filter_cons, if_neg hs]
   have hhead : ∀ k, frisketref09_Exception.l0 (k + 1) (B l) (m : Int) (i : Int) = if ((l.getD i 0).toNat : Int) = 45 then (if (i : Int) = 0 then some false else if (i : Int) = ((l.length : Int) - 1) then some false else (if 0 ≤ wrap64 ((i : Int) - 1) then (if wrap64 ((i : Int) - 1) < (l.length : Int) then (if bt (B l) (wrap64 ((i : Int) - 1)) = 45 then some false else frisketref09_Exception.l0 k (B l) (m : Int) ((i + 1 : Nat) : Int)) else none) else none)) else some false := by
    intro k
    rw [frisketref09_Exception.l0, if_pos h1, if_pos (by omega), hb, rsmall_f, Bool.eq_false_iff.2 hs, Option.bind_some, if_neg Bool.false_ne_true, w64s hlt (by omega), size_B, w64 (x := (l.length : Int) - 1) (by omega) (by omega)]
   by_cases h45 : l.getD i 0 = 45
   ·by_cases hz : i = 0
    ·refine ⟨false, Ev.step (f := fun _ => some _) (fun k => ?_) (Ev.now _), stop rfl ?_⟩
     ·rw [hhead, if_pos ((eq45 _).2 h45), if_pos (by omega)]
     ·rintro (h | h)
      ·exact hs h
      ·exact h.2.1 hz
    ·by_cases hl : i + 1 = l.length
     ·refine ⟨false, Ev.step (f := fun _ => some _) (fun k => ?_) (Ev.now _), stop rfl ?_⟩
      ·rw [hhead, if_pos ((eq45 _).2 h45), if_neg (by omega), if_pos (by omega)]
      ·rintro (h | h)
       ·exact hs h
       ·exact h.2.2.1 hl
     ·have e : wrap64 ((i : Int) - 1) = ((i - 1 : Nat) : Int) := by rw [w64 (by omega) (by omega)]; omega
      by_cases hp : l.getD (i - 1) 0 = 45
      ·refine ⟨false, Ev.step (f := fun _ => some _) (fun k => ?_) (Ev.now _), stop rfl ?_⟩
       ·rw [hhead, if_pos ((eq45 _).2 h45), if_neg (by omega), if_neg (by omega), e, if_pos (by omega), if_pos (by omega), bt_D l (i - 1) (by omega), if_pos ((eq45 _).2 hp)]
       ·rintro (h | h)
        ·exact hs h
        ·exact h.2.2.2 hp
      ·obtain ⟨b, hb2, hb3⟩ := rexc_l l hn d (i + 1) m (by omega) (by omega)
       refine ⟨b, Ev.step (fun k => ?_) hb2, go m (.inr ⟨h45, hz, hl, hp⟩) (by rw [hf]) hb3⟩
       rw [hhead, if_pos ((eq45 _).2 h45), if_neg (by omega), if_neg (by omega), e, if_pos (by omega), if_pos (by omega), bt_D l (i - 1) (by omega), if_neg (fun h => hp ((eq45 _).1 h))]
   ·refine ⟨false, Ev.step (f := fun _ => some _) (fun k => ?_) (Ev.now _), stop rfl ?_⟩
    ·rw [hhead, if_neg (fun h => h45 ((eq45 _).1 h))]
    ·rintro (h | h)
     ·exact hs h
     ·exact h45 h.1
theorem getD_some (l : List UInt8) (j : Nat) (c : UInt8) (h : l[j]? = some c) : j < l.length ∧ l.getD j 0 = c := by
 obtain ⟨hl, he⟩ := List.getElem?_eq_some_iff.1 h
 exact ⟨hl, by rw [getD_at l j hl, he]⟩
theorem some_getD (l : List UInt8) (j : Nat) (h : j < l.length) : l[j]? = some (l.getD j 0) := by
 rw [getD_at l j h, List.getElem?_eq_getElem h]
theorem small_not45 {c : UInt8} (h : smallB c = true) : ¬ c = 45 := by
 intro e; subst e; revert h; decide
theorem filter_nd (l : List UInt8) (h : ∀ c ∈ l, smallB c = true ∨ c = 45) : l.filter smallB = nd l := by
 unfold nd
 apply List.filter_congr
 intro c hc
 rcases h c hc with h | h
 ·rw [h]; simp [small_not45 h]
 ·subst h; decide
theorem good_iff (l : List UInt8) : ((∀ j, 0 ≤ j → j < l.length → Good l j) ∧ 1 ≤ 0 + ((l.drop 0).filter smallB).length ∧ 0 + ((l.drop 0).filter smallB).length ≤ 60) ↔ excB l = true := by
 unfold excB
 rw [List.drop_zero, Nat.zero_add, Bool.and_eq_true, Bool.and_eq_true, Bool.and_eq_true, Bool.and_eq_true, decide_eq_true_eq]
 have hnot : ∀ b : Bool, (!b) = true ↔ ¬ b = true := by intro b; cases b <;> simp
 rw [hnot, hnot, hnot, decide_eq_true_eq, decide_eq_true_eq, contains_iff]
 constructor
 ·rintro ⟨hg, hc⟩
  have hmem : ∀ c ∈ l, smallB c = true ∨ c = 45 := by
   intro c hc'
   obtain ⟨j, hj, he⟩ := List.getElem_of_mem hc'
   have := hg j (Nat.zero_le _) hj
   unfold Good at this
   rw [getD_at l j hj, he] at this
   rcases this with h | h
   ·exact .inl h
   ·exact .inr h.1
  rw [filter_nd l hmem] at hc
  refine ⟨?_, hc, ?_, ?_, ?_⟩
  ·rw [← filter_nd l hmem, List.all_eq_true]
   intro c hc'
   exact (List.mem_filter.1 hc').2
  ·intro h
   rw [List.head?_eq_getElem?] at h
   obtain ⟨hl, he⟩ := getD_some l 0 45 h
   rcases hg 0 (Nat.zero_le _) hl with h | h
   ·exact small_not45 h he
   ·exact h.2.1 rfl
  ·intro h
   rw [List.getLast?_eq_getElem?] at h
   obtain ⟨hl, he⟩ := getD_some l _ 45 h
   rcases hg _ (Nat.zero_le _) hl with h | h
   ·exact small_not45 h he
   ·exact h.2.2.1 (by omega)
  ·rintro ⟨i, h1, h2⟩
   obtain ⟨_, he⟩ := getD_some l i 45 h1
   obtain ⟨hl2, he2⟩ := getD_some l (i + 1) 45 h2
   rcases hg (i + 1) (Nat.zero_le _) hl2 with h | h
   ·exact small_not45 h he2
   ·exact h.2.2.2 he
 ·rintro ⟨h1, h2, h3, h4, h5⟩
  have hmem : ∀ c ∈ l, smallB c = true ∨ c = 45 := by
   intro c hc'
   by_cases e : c = 45
   ·exact .inr e
   ·exact .inl (List.all_eq_true.1 h1 c (List.mem_filter.2 ⟨hc', by simpa using e⟩))
  rw [filter_nd l hmem]
  refine ⟨fun j _ hj => ?_, h2⟩
  rcases hmem _ (List.getElem_mem hj) with h | h
  ·exact .inl (by rw [getD_at l j hj]; exact h)
  ·refine .inr ⟨by rw [getD_at l j hj]; exact h, ?_, ?_, ?_⟩
   ·intro e
    subst e
    exact h3 (by rw [List.head?_eq_getElem?, List.getElem?_eq_getElem hj, h])
   ·intro e
    exact h4 (by rw [List.getLast?_eq_getElem?, show l.length - 1 = j by omega, List.getElem?_eq_getElem hj, h])
   ·intro e
    by_cases hz : j = 0
    ·subst hz
     exact h3 (by rw [List.head?_eq_getElem?, List.getElem?_eq_getElem hj, h])
    ·exact h5 ⟨j - 1, by rw [some_getD l (j - 1) (by omega), e], by rw [show j - 1 + 1 = j by omega, List.getElem?_eq_getElem hj, h]⟩
theorem rexc_f (l : List UInt8) (hn : l.length ≤ 1048576) : Ev (fun k => frisketref09_Exception.f k (B l)) (excB l) := by
 obtain ⟨b, h1, h2⟩ := rexc_l l hn l.length 0 0 (by omega) (by omega)
 have e : b = excB l := by
  rw [Bool.eq_iff_iff, h2]
  exact good_iff l
 rw [← e]
 exact h1
end Go.Proofs.YtmjglgbkigjfkaaDoor.Pure
namespace Go.Proofs.YtmjglgbkigjfkaaDoor.Pure
open Go.RowKit Go.Proofs.YtmjglgbkigjfkaaDoor Go.Proofs.YtmjglgbkigjfkaaDoor.Xa Go.Proofs.YtmjglgbkigjfkaaDoorW.PrintWords Go.Proofs.YtmjglgbkigjfkaaDoorW.PrintLast Go.Proofs.YtmjglgbkigjfkaaDoorW.PrintMore
def mkS (x : List UInt8 × List Int) : S64 := ⟨B x.1, x.2⟩
/-- Texts that are not too long. -/
def Short (ps : List (List UInt8)) : Prop := ps.length ≤ 1048576 ∧ ∀ p ∈ ps, p.length ≤ 1048576
theorem rdOf_at (ps : List (List UInt8)) (i : Nat) (h : i < ps.length) : rdOf ByteArray.empty (ps.map B) (i : Int) = B ps[i] := by
 unfold rdOf
 rw [Int.toNat_natCast, List.getD_eq_getElem?_getD, List.getElem?_map, List.getElem?_eq_getElem h]
 rfl
theorem drop_at {α : Type} (ps : List α) (i : Nat) (h : i < ps.length) : ps.drop i = ps[i] :: ps.drop (i + 1) := List.drop_eq_getElem_cons h
def patsOf : List (List UInt8) → Option (List (List UInt8 × List Int))
 | [] => some []
 | p :: ps => match patOf p, patsOf ps with
  | some x, some q => some (x :: q)
  | _, _ => none
theorem parsed_l (ps : List (List UInt8)) (hp : Short ps) : ∀ (d i : Nat) (acc : List (List UInt8 × List Int)), i + d = ps.length → acc.length ≤ i →
  Ev (fun k => hyphen_parsed.l0 k (acc.map mkS) (ps.map B) (ps.length : Int) (i : Int)) (match patsOf (ps.drop i) with | none => ([], 4) | some q => ((acc ++ q).map mkS, 0))
 | 0, i, acc, hi, ha => by
  rw [List.drop_of_length_le (by omega)]
  refine Ev.step (f := fun _ => some _) (fun k => ?_) (Ev.now _)
  rw [hyphen_parsed.l0, if_neg (by omega)]
  simp [patsOf]
 | d + 1, i, acc, hi, ha => by
  have hlt : i < ps.length := by omega
  have hn := hp.1
  have hpi := hp.2 _ (List.getElem_mem hlt)
  obtain ⟨r, hr, ht⟩ := read_t ps[i] hpi
  rw [drop_at ps i hlt, patsOf]
  have hhead : ∀ k, hyphen_parsed.l0 (k + 1) (acc.map mkS) (ps.map B) (ps.length : Int) (i : Int) = (hyphen_read.f k (B ps[i])).bind fun bt126 => (if bt126.2.2 = true then (if (acc.map mkS).length < 3518437208883 then (hyphen_parsed.l0 k ((acc.map mkS) ++ [(⟨bt126.1, bt126.2.1⟩ : S64)]) (ps.map B) (ps.length : Int) ((i + 1 : Nat) : Int)) else (none)) else (some (([] : List (S64)), 4))) := by
   intro k
   rw [hyphen_parsed.l0, if_pos (by omega), if_pos (by omega), if_pos (by rw [List.length_map]; omega), rdOf_at ps i hlt, w64s hlt (by omega)]
  refine Ev.step hhead (Ev.bind hr ?_)
  cases ho : patOf ps[i] with
  | none =>
   rw [ho] at ht
   unfold Told at ht
   dsimp only at ht ⊢
   rw [ht]
   exact Ev.congr (fun k => if_neg Bool.false_ne_true) (Ev.now _)
  | some x =>
   obtain ⟨t, v⟩ := x
   rw [ho] at ht
   unfold Told at ht
   dsimp only at ht
   subst ht
   have ih := parsed_l ps hp d (i + 1) (acc ++ [(t, v)]) (by omega) (by rw [List.length_append, List.length_singleton]; omega)
   have e : (acc ++ [(t, v)]).map mkS = acc.map mkS ++ [(⟨B t, v⟩ : S64)] := by rw [List.map_append]; rfl
   rw [e] at ih
   have e2 : (match patsOf (ps.drop (i + 1)) with | none => (([] : List S64), (4 : Int)) | some q => (((acc ++ [(t, v)]) ++ q).map mkS, 0)) = (match (match some (t, v), patsOf (ps.drop (i + 1)) with | some x, some q => some (x :: q) | _, _ => none) with | none => ([], 4) | some q => ((acc ++ q).map mkS, 0)) := by
    cases patsOf (ps.drop (i + 1)) with
    | none => rfl
    | some q => simp
   rw [← e2]
   refine Ev.congr (fun k => ?_) ih
   dsimp only
   rw [if_pos rfl, if_pos (by rw [List.length_map]; omega)]
theorem parsed_f (ps : List (List UInt8)) (hp : Short ps) : Ev (fun k => hyphen_parsed.f k (ps.map B)) (if ps.length > 2000 then ([], 2) else match patsOf ps with | none => ([], 4) | some q => (q.map mkS, 0)) := by
 by_cases h : ps.length > 2000
 ·rw [if_pos h]
  refine Ev.congr (fun k => ?_) (Ev.now _)
  rw [hyphen_parsed.f, if_pos (by rw [List.length_map]; omega)]
 ·rw [if_neg h]
  refine Ev.congr (fun k => ?_) (parsed_l ps hp ps.length 0 [] (by omega) (by simp))
  rw [hyphen_parsed.f, if_neg (by rw [List.length_map]; omega), List.length_map]
  rfl
theorem patsOf_isSome : ∀ ps : List (List UInt8), (patsOf ps).isSome = ps.all fun p => (patOf p).isSome
 | [] => rfl
 | p :: ps => by
  rw [List.all_cons, ← patsOf_isSome ps, patsOf]
  cases patOf p <;> cases patsOf ps <;> rfl
def chk (ps xs : List (List UInt8)) : Int := if ps.length > 2000 ∨ xs.length > 2000 then 2 else if (patsOf ps).isSome = true then (if xs.all excB = true then 0 else 4) else 4
theorem check_l1 (xs : List (List UInt8)) (hx : Short xs) : ∀ (d i : Nat), i + d = xs.length → Ev (fun k => frisketref09_check.l1 k (xs.map B) (i : Int)) (if (xs.drop i).all excB = true then 0 else 4)
 | 0, i, hi => by
  rw [List.drop_of_length_le (by omega)]
  refine Ev.step (f := fun _ => some _) (fun k => ?_) (Ev.now _)
  rw [frisketref09_check.l1, if_neg (by rw [List.length_map]; omega)]
  rfl
 | d + 1, i, hi => by
  have hlt : i < xs.length := by omega
  have hn := hx.1
  have h := rexc_f xs[i] (hx.2 _ (List.getElem_mem hlt))
  have hhead : ∀ k, frisketref09_check.l1 (k + 1) (xs.map B) (i : Int) = (frisketref09_Exception.f k (B xs[i])).bind fun t263 => (if t263 = true then (frisketref09_check.l1 k (xs.map B) ((i + 1 : Nat) : Int)) else (some 4)) := by
   intro k
   rw [frisketref09_check.l1, if_pos (by rw [List.length_map]; omega), if_pos (by omega), rdOf_at xs i hlt, w64s hlt (by omega)]
  refine Ev.step hhead (Ev.bind h ?_)
  rw [drop_at xs i hlt, List.all_cons]
  cases excB xs[i] with
  | true => exact Ev.congr (fun k => if_pos rfl) (check_l1 xs hx d (i + 1) (by omega))
  | false => exact Ev.congr (fun k => if_neg Bool.false_ne_true) (Ev.now _)
theorem check_l0 (ps xs : List (List UInt8)) (hp : Short ps) (hx : Short xs) : ∀ (d i : Nat), i + d = ps.length → Ev (fun k => frisketref09_check.l0 k (ps.map B) (xs.map B) (i : Int)) (if (patsOf (ps.drop i)).isSome = true then (if xs.all excB = true then 0 else 4) else 4)
 | 0, i, hi => by
  rw [List.drop_of_length_le (by omega)]
  refine Ev.step (fun k => ?_) (check_l1 xs hx xs.length 0 (by omega))
  rw [frisketref09_check.l0, if_neg (by rw [List.length_map]; omega)]
  rfl
 | d + 1, i, hi => by
  have hlt : i < ps.length := by omega
  have hn := hp.1
  have h := rpattern_f ps[i] (hp.2 _ (List.getElem_mem hlt))
  have hhead : ∀ k, frisketref09_check.l0 (k + 1) (ps.map B) (xs.map B) (i : Int) = (frisketref09_Pattern.f k (B ps[i])).bind fun t261 => (if t261 = true then (frisketref09_check.l0 k (ps.map B) (xs.map B) ((i + 1 : Nat) : Int)) else (some 4)) := by
   intro k
   rw [frisketref09_check.l0, if_pos (by rw [List.length_map]; omega), if_pos (by omega), rdOf_at ps i hlt, w64s hlt (by omega)]
  refine Ev.step hhead (Ev.bind h ?_)
  rw [drop_at ps i hlt, patsOf]
  cases patOf ps[i] with
  | none => exact Ev.congr (fun k => if_neg Bool.false_ne_true) (Ev.now _)
  | some x =>
   have ih := check_l0 ps xs hp hx d (i + 1) (by omega)
   have e : (patsOf (ps.drop (i + 1))).isSome = (match some x, patsOf (ps.drop (i + 1)) with | some x, some q => some (x :: q) | _, _ => none).isSome := by cases patsOf (ps.drop (i + 1)) <;> rfl
   rw [e] at ih
   exact Ev.congr (fun k => if_pos rfl) ih
theorem check_f (ps xs : List (List UInt8)) (hp : Short ps) (hx : Short xs) : Ev (fun k => frisketref09_check.f k (ps.map B) (xs.map B)) (chk ps xs) := by
 unfold chk
 by_cases h1 : ps.length > 2000
 ·rw [if_pos (.inl h1)]
  refine Ev.congr (f := fun k => frisketref09_check.j0 k (ps.map B) (xs.map B) true) (fun k => ?_) (Ev.step (f := fun _ => some _) (fun k => ?_) (Ev.now _))
  ·rw [frisketref09_check.f, if_pos (by rw [List.length_map]; omega)]
  ·rw [frisketref09_check.j0, if_pos rfl]
 ·by_cases h2 : xs.length > 2000
  ·rw [if_pos (.inr h2)]
   refine Ev.congr (f := fun k => frisketref09_check.j0 k (ps.map B) (xs.map B) true) (fun k => ?_) (Ev.step (f := fun _ => some _) (fun k => ?_) (Ev.now _))
   ·rw [frisketref09_check.f, if_neg (by rw [List.length_map]; omega), decide_eq_true (by rw [List.length_map]; omega)]
   ·rw [frisketref09_check.j0, if_pos rfl]
  ·rw [if_neg (fun h => by rcases h with h | h; exact h1 h; exact h2 h)]
   refine Ev.congr (f := fun k => frisketref09_check.j0 k (ps.map B) (xs.map B) false) (fun k => ?_) (Ev.step (fun k => ?_) (check_l0 ps xs hp hx ps.length 0 (by omega)))
   ·rw [frisketref09_check.f, if_neg (by rw [List.length_map]; omega), decide_eq_false (by rw [List.length_map]; omega)]
   ·rw [frisketref09_check.j0, if_neg Bool.false_ne_true]; rfl
end Go.Proofs.YtmjglgbkigjfkaaDoor.Pure
