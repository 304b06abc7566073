/- Layer 4 (expand), the plain law of Join: both sides join alike. -/
import Derived.Lib.TrimByte
import Derived.Test.YtifpjidkfemkfaaDoorYXB
import Derived.Test.YtifpjidkfemkfaaDoorYj0
import Derived.Test.YtifpjidkfemkfaaDoorYj1
import Derived.Test.YtifpjidkfemkfaaDoorYj2
set_option linter.unusedVariables false
set_option linter.unusedSimpArgs false
namespace Go.Proofs.YtifpjidkfemkfaaDoor.Pure
open Go.RowKit Go.Proofs.YtifpjidkfemkfaaDoor Go.Proofs.YtifpjidkfemkfaaDoor.Xj Go.Proofs.YtifpjidkfemkfaaDoorW.PrintWords Go.Proofs.YtifpjidkfemkfaaDoorW.PrintLast Go.Proofs.YtifpjidkfemkfaaDoorW.PrintMore
/-- How many backslashes a text ends in. -/
def tb (l : List UInt8) : Nat := (l.reverse.takeWhile (· == 92)).length
def oddS (l : List UInt8) : Bool := decide (tb l % 2 = 1)
theorem tb_le (l : List UInt8) : tb l ≤ l.length := by
  unfold tb
  have := (List.takeWhile_sublist (p := (· == (92 : UInt8))) (l := l.reverse)).length_le
  simpa using this
theorem tw_dw {α : Type} (p : α → Bool) (l : List α) : (l.takeWhile p).length + (l.dropWhile p).length = l.length := by
  have := congrArg List.length (List.takeWhile_append_dropWhile (p := p) (l := l))
  rw [List.length_append] at this
  exact this
theorem trim_len (l : List UInt8) : (Lib.trimRightB l 92).length + tb l = l.length := by
  unfold Lib.trimRightB tb
  have := tw_dw (· == (92 : UInt8)) l.reverse
  rw [List.length_reverse] at this ⊢
  omega
theorem tmod2 (n : Nat) : ((Int.tmod (n : Int) 2) == 1) = decide (n % 2 = 1) := by
  have : Int.tmod (n : Int) 2 = ((n % 2 : Nat) : Int) := by rw [Int.tmod_eq_emod_of_nonneg (by omega)]; omega
  rw [this]
  by_cases h : n % 2 = 1
  · rw [h]; rfl
  · have h0 : n % 2 = 0 := by omega
    rw [h0]; rfl
theorem eq92 (c : UInt8) : ((c.toNat : Int) = 92) ↔ (c == 92) = true := by
  rw [beq_iff_eq]
  constructor
  · intro h
    apply UInt8.toNat_inj.1
    have : (92 : UInt8).toNat = 92 := rfl
    omega
  · rintro rfl; rfl
theorem odd_l (l : List UInt8) (hn : l.length ≤ 1048576) : ∀ (d i : Nat), i + d = l.length → tb l = i + ((l.reverse.drop i).takeWhile (· == 92)).length → Ev (fun k => frisketref04_odd.l0 k (B l) (i : Int)) (oddS l)
  | 0, i, hi, ht => by
    have e : l.reverse.drop i = [] := List.drop_of_length_le (by simp; omega)
    rw [e] at ht
    have ht' : tb l = i := by simpa using ht
    refine Ev.step (f := fun _ => some _) (fun k => ?_) (Ev.now _)
    rw [frisketref04_odd.l0, if_neg (by rw [size_B]; omega), oddS, ht', tmod2]
  | d + 1, i, hi, ht => by
    have hlt : i < l.length := by omega
    have hr : i < l.reverse.length := by simpa using hlt
    have hd : l.reverse.drop i = l.reverse[i] :: l.reverse.drop (i + 1) := List.drop_eq_getElem_cons hr
    have hg : l.reverse[i] = l[l.length - 1 - i] := List.getElem_reverse hr
    rw [hd, List.takeWhile_cons] at ht
    have e1 : wrap64 ((wrap64 (((B l).size : Int) - 1)) - (i : Int)) = ((l.length - 1 - i : Nat) : Int) := by
      have e0 : wrap64 ((l.length : Int) - 1) = (l.length : Int) - 1 := w64 (by omega) (by omega)
      rw [size_B, e0, w64 (by omega) (by omega)]; omega
    by_cases hc : (l[l.length - 1 - i] == 92) = true
    · rw [hg, hc, if_pos rfl] at ht
      refine Ev.step (fun k => ?_) (odd_l l hn d (i + 1) (by omega) (by rw [ht, List.length_cons]; omega))
      rw [frisketref04_odd.l0, if_pos (by rw [size_B]; omega), e1, if_pos (by omega), if_pos (by rw [size_B]; omega), bt_B l _ (by omega), if_pos ((eq92 _).2 hc), w64s hlt (by omega)]
    · rw [hg, Bool.eq_false_iff.2 hc] at ht
      have ht' : tb l = i := by simpa using ht
      refine Ev.step (f := fun _ => some _) (fun k => ?_) (Ev.now _)
      rw [frisketref04_odd.l0, if_pos (by rw [size_B]; omega), e1, if_pos (by omega), if_pos (by rw [size_B]; omega), bt_B l _ (by omega), if_neg (fun h => hc ((eq92 _).1 h)), oddS, ht', tmod2]
theorem odd_f (l : List UInt8) (hn : l.length ≤ 1048576) : Ev (fun k => frisketref04_odd.f k (B l)) (oddS l) := by
  have h := odd_l l hn l.length 0 (by omega) (by rw [List.drop_zero]; unfold tb; omega)
  exact h
theorem trim_f (l : List UInt8) (hn : l.length ≤ 1048576) : strings_TrimRight.f (B l) (⟨#[92]⟩ : ByteArray) = some (B (Lib.trimRightB l 92)) := by
  unfold strings_TrimRight.f
  have e : (⟨#[92]⟩ : ByteArray).data.toList = [92] := rfl
  rw [e]
  show (if _ then _ else _) = _
  rw [if_pos ⟨by decide, by rw [size_B]; omega⟩, data_B]
  rfl
/-- What joining gives: s is begun, ls follow. -/
def J : List UInt8 → List (List UInt8) → List (List UInt8)
  | s, [] => [s]
  | s, l :: ls => if oddS s = true then J (s.dropLast ++ l) ls else s :: J l ls
def JJ : List (List UInt8) → List (List UInt8)
  | [] => []
  | l :: ls => J l ls
def tot (ls : List (List UInt8)) : Nat := (ls.map List.length).sum
theorem tot_drop (ls : List (List UInt8)) (i : Nat) (h : i < ls.length) : tot (ls.drop i) = ls[i].length + tot (ls.drop (i + 1)) := by
  rw [List.drop_eq_getElem_cons h]; simp only [tot, List.map_cons, List.sum_cons]
theorem odd_ne {s : List UInt8} (h : oddS s = true) : 1 ≤ s.length := by
  have h1 := of_decide_eq_true h
  have := tb_le s
  omega
theorem chop_B (s : List UInt8) (h : 1 ≤ s.length) (hn : s.length ≤ 1048576) : (B s).extract 0 ((wrap64 (((B s).size : Int) - 1)) : Int).toNat = B s.dropLast := by
  rw [size_B, w64 (by omega) (by omega), extract_B, show ((s.length : Int) - 1).toNat = s.length - 1 by omega, List.drop_zero, List.dropLast_eq_take]
  rfl
theorem rdX (ls : List (List UInt8)) (i : Nat) (h : i < ls.length) : rdOf ByteArray.empty (ls.map B) (i : Int) = B ls[i] := by
  unfold rdOf
  rw [Int.toNat_natCast, List.getD_eq_getElem?_getD, List.getElem?_map, List.getElem?_eq_getElem h]
  rfl
theorem rd_last (o : List ByteArray) (x : ByteArray) : rdOf ByteArray.empty (o ++ [x]) (o.length : Int) = x := by
  unfold rdOf
  rw [Int.toNat_natCast, List.getD_eq_getElem?_getD, List.getElem?_append_right (Nat.le_refl _), Nat.sub_self]
  rfl
theorem set_last (o : List ByteArray) (x y : ByteArray) : (o ++ [x]).set ((o.length : Int)).toNat y = o ++ [y] := by
  rw [Int.toNat_natCast, List.set_append_right _ _ (Nat.le_refl _), Nat.sub_self]
  rfl
theorem last_ix (o : List ByteArray) (x : ByteArray) (h : o.length ≤ 1048576) : wrap64 (((o ++ [x]).length : Int) - 1) = (o.length : Int) := by
  rw [List.length_append, List.length_singleton, w64 (by omega) (by omega)]; omega
/-! ### the specification's -/
theorem rl1 (ls : List (List UInt8)) (hl : ls.length ≤ 1000) : ∀ (d i : Nat) (acc : List ByteArray) (s : List UInt8), i + 1 + d = ls.length → acc.length ≤ i → s.length + tot (ls.drop (i + 1)) ≤ 1000000 →
    Ev (fun k => frisketref04_Join.l1 k (ls.map B) acc (i : Int) (B s)) (acc ++ (J s (ls.drop (i + 1))).map B)
  | 0, i, acc, s, hi, ha, hs => by
    have e : ls.drop (i + 1) = [] := List.drop_of_length_le (by omega)
    rw [e, J]
    have hend : Ev (fun k => frisketref04_Join.l0 k (ls.map B) (acc ++ [B s]) ((i + 1 : Nat) : Int)) (acc ++ ([s] : List (List UInt8)).map B) := by
      refine Ev.done (fun k => ?_)
      rw [frisketref04_Join.l0, if_neg (by rw [List.length_map]; omega)]
      rfl
    refine' Ev.bindStep (odd_f s (by omega)) (fun k => frisketref04_Join.l1.eq_2 _ _ _ _ _) ?_
    · refine Ev.congr (fun k => ?_) hend
      rw [if_pos (show acc.length < 8796093022208 by omega), w64s (show i < ls.length by omega) (by omega), if_neg (show ¬ ((i + 1 : Nat) : Int) < ((ls.map B).length : Int) by rw [List.length_map]; omega)]
      split <;> rfl
  | d + 1, i, acc, s, hi, ha, hs => by
    have hlt : i + 1 < ls.length := by omega
    rw [List.drop_eq_getElem_cons hlt, J]
    rw [tot_drop ls (i + 1) hlt] at hs
    by_cases hodd : oddS s = true
    · rw [if_pos hodd]
      have h1 := odd_ne hodd
      have ih := rl1 ls hl d (i + 1) acc (s.dropLast ++ ls[i + 1]) (by omega) (by omega) (by rw [List.length_append, List.length_dropLast]; omega)
      refine' Ev.bindStep (odd_f s (by omega)) (fun k => frisketref04_Join.l1.eq_2 _ _ _ _ _) ?_
      · refine Ev.congr (fun k => ?_) ih
        rw [w64s (show i < ls.length by omega) (by omega), if_pos hodd, if_pos (by rw [List.length_map]; omega), if_pos (by rw [size_B, w64 (by omega) (by omega)]; omega), if_pos (by rw [size_B, w64 (by omega) (by omega)]; omega), if_pos (by omega), rdX ls (i + 1) hlt, chop_B s h1 (by omega), append_B,
            if_pos (by rw [size_B, size_B, List.length_dropLast]; omega)]
    · rw [if_neg hodd]
      have ih := rl1 ls hl d (i + 1) (acc ++ [B s]) ls[i + 1] (by omega) (by rw [List.length_append, List.length_singleton]; omega) (by omega)
      have hmid : Ev (fun k => frisketref04_Join.l0 k (ls.map B) (acc ++ [B s]) ((i + 1 : Nat) : Int)) (acc ++ (s :: J ls[i + 1] (ls.drop (i + 1 + 1))).map B) := by
        rw [List.map_cons, show acc ++ B s :: (J ls[i + 1] (ls.drop (i + 1 + 1))).map B = acc ++ [B s] ++ (J ls[i + 1] (ls.drop (i + 1 + 1))).map B by simp]
        refine Ev.goes ih (fun k => ?_)
        rw [frisketref04_Join.l0, if_pos (by rw [List.length_map]; omega), if_pos (by omega), rdX ls (i + 1) hlt]
      refine' Ev.bindStep (odd_f s (by omega)) (fun k => frisketref04_Join.l1.eq_2 _ _ _ _ _) ?_
      · refine Ev.congr (fun k => ?_) hmid
        rw [w64s (show i < ls.length by omega) (by omega), if_neg hodd, if_pos (by omega)]
theorem rjoin_f (ls : List (List UInt8)) (hl : ls.length ≤ 1000) (ht : tot ls ≤ 1000000) : Ev (fun k => frisketref04_Join.f k (ls.map B)) ((JJ ls).map B) := by
  cases ls with
  | nil =>
    refine Ev.done (fun k => ?_)
    rw [frisketref04_Join.f, frisketref04_Join.l0, if_neg (by simp)]
    rfl
  | cons l ls =>
    have h := rl1 (l :: ls) hl ls.length 0 [] l (by rw [List.length_cons]; omega) (by simp) (by simpa [tot] using ht)
    refine Ev.goes (g := fun k => frisketref04_Join.l1 k ((l :: ls).map B) [] ((0 : Nat) : Int) (B l)) (by simpa [JJ] using h) (fun k => ?_)
    rw [frisketref04_Join.f, frisketref04_Join.l0, if_pos (by simp), if_pos (by omega)]
    rfl
/-! ### the program's -/
theorem trimmed (q : List UInt8) (hq : q.length ≤ 1000000) : ((Int.tmod (wrap64 (((B q).size : Int) - ((B (Lib.trimRightB q 92)).size : Int))) 2) == 1) = oddS q := by
  have := trim_len q
  rw [size_B, size_B, w64 (by omega) (by omega), oddS, ← tmod2]
  congr 2
  omega
/-- What stands behind the place where a line has been laid: o ++ [q] has been collected. -/
theorem tail_ev (ls : List (List UInt8)) (hl : ls.length ≤ 1000) (i : Nat) (hi : i < ls.length) (o : List ByteArray) (q : List UInt8) (ho : o.length ≤ i) (hs : q.length + tot (ls.drop (i + 1)) ≤ 1000000) (r : List ByteArray) (G : Nat → Option (List ByteArray))
    (hG : ∀ k, G (k + 1) = if ((i + 1 : Nat) : Int) < ((ls.map B).length : Int) then ((strings_TrimRight.f (B q) (⟨#[92]⟩ : ByteArray)).bind fun t176 => (if (Int.tmod (wrap64 (((B q).size : Int) - (t176.size : Int))) 2) = 1 then (if 0 ≤ (wrap64 (((B q).size : Int) - 1)) then (if (wrap64 (((B q).size : Int) - 1)) ≤ ((B q).size : Int) then (expand_Join.l0 k (ls.map B) ((o ++ [B q]).set ((o.length : Int)).toNat ((B q).extract 0 ((wrap64 (((B q).size : Int) - 1)) : Int).toNat)) ((Int.tmod (wrap64 (((B q).size : Int) - (t176.size : Int))) 2) == 1) (ls.map B) ((ls.map B).length : Int) ((i + 1 : Nat) : Int)) else (none)) else (none)) else (expand_Join.l0 k (ls.map B) (o ++ [B q]) ((Int.tmod (wrap64 (((B q).size : Int) - (t176.size : Int))) 2) == 1) (ls.map B) ((ls.map B).length : Int) ((i + 1 : Nat) : Int)))) else (expand_Join.l0 k (ls.map B) (o ++ [B q]) false (ls.map B) ((ls.map B).length : Int) ((i + 1 : Nat) : Int)))
    (h1 : i + 1 < ls.length → oddS q = true → Ev (fun k => expand_Join.l0 k (ls.map B) (o ++ [B q.dropLast]) true (ls.map B) ((ls.map B).length : Int) ((i + 1 : Nat) : Int)) r)
    (h2 : (i + 1 < ls.length → oddS q = false) → Ev (fun k => expand_Join.l0 k (ls.map B) (o ++ [B q]) false (ls.map B) ((ls.map B).length : Int) ((i + 1 : Nat) : Int)) r) : Ev G r := by
  by_cases hlt : i + 1 < ls.length
  · have htm := trimmed q (by omega)
    by_cases hodd : oddS q = true
    · refine Ev.goes (h1 hlt hodd) (fun k => ?_)
      have h3 := odd_ne hodd
      rw [hG, if_pos (by rw [List.length_map]; omega), trim_f q (by omega), Option.bind_some, htm, hodd, if_pos (by have := htm.trans hodd; simpa using this), if_pos (by rw [size_B, w64 (by omega) (by omega)]; omega), if_pos (by rw [size_B, w64 (by omega) (by omega)]; omega), chop_B q h3 (by omega), set_last]
    · have hodd' := Bool.eq_false_iff.2 hodd
      refine Ev.goes (h2 fun _ => hodd') (fun k => ?_)
      rw [hG, if_pos (by rw [List.length_map]; omega), trim_f q (by omega), Option.bind_some, htm, hodd', if_neg (by have := htm.trans hodd'; simpa using this)]
  · refine Ev.goes (h2 fun h => absurd h hlt) (fun k => ?_)
    rw [hG, if_neg (by rw [List.length_map]; omega)]
theorem pj (ls : List (List UInt8)) (hl : ls.length ≤ 1000) : ∀ (d i : Nat), i + d = ls.length →
    (∀ (o : List ByteArray), o.length ≤ i → tot (ls.drop i) ≤ 1000000 → Ev (fun k => expand_Join.l0 k (ls.map B) o false (ls.map B) ((ls.map B).length : Int) (i : Int)) (o ++ (JJ (ls.drop i)).map B)) ∧
    (∀ (o : List ByteArray) (p : List UInt8) (hi : i < ls.length), o.length < i → p.length + tot (ls.drop i) ≤ 1000000 → Ev (fun k => expand_Join.l0 k (ls.map B) (o ++ [B p]) true (ls.map B) ((ls.map B).length : Int) (i : Int)) (o ++ (J (p ++ ls[i]) (ls.drop (i + 1))).map B))
  | 0, i, hi => by
    refine ⟨fun o _ _ => ?_, fun o p hi' => by omega⟩
    have e : ls.drop i = [] := List.drop_of_length_le (by omega)
    refine Ev.done (fun k => ?_)
    rw [expand_Join.l0, if_neg (by rw [List.length_map]; omega), e, JJ, List.map_nil, List.append_nil]
  | d + 1, i, hi => by
    have hlt : i < ls.length := by omega
    obtain ⟨ihA, ihB⟩ := pj ls hl d (i + 1) (by omega)
    have key : ∀ (o : List ByteArray) (q : List UInt8), o.length ≤ i → q.length + tot (ls.drop (i + 1)) ≤ 1000000 → ∀ G : Nat → Option (List ByteArray),
        (∀ k, G (k + 1) = if ((i + 1 : Nat) : Int) < ((ls.map B).length : Int) then ((strings_TrimRight.f (B q) (⟨#[92]⟩ : ByteArray)).bind fun t176 => (if (Int.tmod (wrap64 (((B q).size : Int) - (t176.size : Int))) 2) = 1 then (if 0 ≤ (wrap64 (((B q).size : Int) - 1)) then (if (wrap64 (((B q).size : Int) - 1)) ≤ ((B q).size : Int) then (expand_Join.l0 k (ls.map B) ((o ++ [B q]).set ((o.length : Int)).toNat ((B q).extract 0 ((wrap64 (((B q).size : Int) - 1)) : Int).toNat)) ((Int.tmod (wrap64 (((B q).size : Int) - (t176.size : Int))) 2) == 1) (ls.map B) ((ls.map B).length : Int) ((i + 1 : Nat) : Int)) else (none)) else (none)) else (expand_Join.l0 k (ls.map B) (o ++ [B q]) ((Int.tmod (wrap64 (((B q).size : Int) - (t176.size : Int))) 2) == 1) (ls.map B) ((ls.map B).length : Int) ((i + 1 : Nat) : Int)))) else (expand_Join.l0 k (ls.map B) (o ++ [B q]) false (ls.map B) ((ls.map B).length : Int) ((i + 1 : Nat) : Int))) →
        Ev G (o ++ (J q (ls.drop (i + 1))).map B) := by
      intro o q ho hq G hG
      refine tail_ev ls hl i hlt o q ho hq _ G hG ?_ ?_
      · intro h1 hodd
        have := ihB o q.dropLast h1 (by omega) (by rw [List.length_dropLast]; omega)
        rw [List.drop_eq_getElem_cons h1, J, if_pos hodd]
        exact this
      · intro hodd
        have := ihA (o ++ [B q]) (by rw [List.length_append, List.length_singleton]; omega) (by omega)
        by_cases h1 : i + 1 < ls.length
        · rw [List.drop_eq_getElem_cons h1, J, if_neg (by rw [hodd h1]; exact Bool.false_ne_true), List.map_cons]
          rw [List.drop_eq_getElem_cons h1, JJ] at this
          rw [show o ++ B q :: (J ls[i + 1] (ls.drop (i + 1 + 1))).map B = o ++ [B q] ++ (J ls[i + 1] (ls.drop (i + 1 + 1))).map B by simp]
          exact this
        · have e : ls.drop (i + 1) = [] := List.drop_of_length_le (by omega)
          rw [e, JJ, List.map_nil, List.append_nil] at this
          rw [e, J]
          exact this
    refine ⟨fun o ho hs => ?_, fun o p hi' ho hs => ?_⟩
    · rw [tot_drop ls i hlt] at hs
      rw [List.drop_eq_getElem_cons hlt, JJ]
      refine key o ls[i] ho (by omega) _ (fun k => ?_)
      rw [expand_Join.l0, if_pos (by rw [List.length_map]; omega), if_pos (by omega), if_pos (by rw [List.length_map]; omega), if_neg Bool.false_ne_true, if_pos (by omega), rdX ls i hlt, Option.bind_some, last_ix o _ (by omega), if_pos (by omega),
        if_pos (by rw [List.length_append, List.length_singleton]; omega), w64s hlt (by omega), rd_last]
    · rw [tot_drop ls i hlt] at hs
      refine key o (p ++ ls[i]) (by omega) (by rw [List.length_append]; omega) _ (fun k => ?_)
      rw [expand_Join.l0, if_pos (by rw [List.length_map]; omega), if_pos (by omega), if_pos (by rw [List.length_map]; omega), if_pos rfl, last_ix o _ (by omega), if_pos (by omega),
        if_pos (by rw [List.length_append, List.length_singleton]; omega), rdX ls i hlt, rd_last, if_pos (by rw [size_B, size_B]; omega), append_B, set_last, Option.bind_some, w64s hlt (by omega), rd_last]
theorem pjoin_f (ls : List (List UInt8)) (hl : ls.length ≤ 1000) (ht : tot ls ≤ 1000000) : Ev (fun k => expand_Join.f k (ls.map B)) ((JJ ls).map B) := by
  have h := (pj ls hl ls.length 0 (by omega)).1 [] (by simp) (by simpa using ht)
  exact h
end Go.Proofs.YtifpjidkfemkfaaDoor.Pure
