/- Layer 4 (expand), the plain law: escapes and widths of both sides. -/
import Derived.Test.YtifpjidkfemkfaaDoorYXT2
import Derived.Test.YtifpjidkfemkfaaDoorYa0
import Derived.Test.YtifpjidkfemkfaaDoorYb0
import Derived.Test.YtifpjidkfemkfaaDoorYb2
import Derived.Test.YtifpjidkfemkfaaDoorYb3
import Derived.Test.YtifpjidkfemkfaaDoorYb4
set_option linter.unusedVariables false
set_option linter.unusedSimpArgs false
namespace Go.Proofs.YtifpjidkfemkfaaDoor.Pure
open Go.RowKit Go.Proofs.YtifpjidkfemkfaaDoor Go.Proofs.YtifpjidkfemkfaaDoor.Xb Go.Proofs.YtifpjidkfemkfaaDoorW.PrintWords Go.Proofs.YtifpjidkfemkfaaDoorW.PrintLast Go.Proofs.YtifpjidkfemkfaaDoorW.PrintMore
theorem bt_D (l : List UInt8) (i : Nat) (h : i < l.length) : bt (B l) (i : Int) = ((l.getD i 0).toNat : Int) := by
  rw [bt_B l i h, List.getD_eq_getElem?_getD, List.getElem?_eq_getElem h]; rfl
def askN (l : List UInt8) (k : UInt8) (st : Int) (n : Nat) : Option (UInt8 × Int × List UInt8 × Nat) := (nameS (l.drop n)).map fun q => (k, st, q.1, n + q.2)
/-- An escape that asks, at a text's front: its kind, step, name, and how many bytes it takes. -/
def askS (l : List UInt8) : Option (UInt8 × Int × List UInt8 × Nat) :=
  if l.length < 3 then none else if l.getD 0 0 ≠ 92 then none
  else if l.getD 1 0 = 110 then (if l.getD 2 0 = 43 then askN l 110 1 3 else if l.getD 2 0 = 45 then askN l 110 (-1) 3 else askN l 110 0 2)
  else if l.getD 1 0 = 42 then askN l 42 0 2 else if l.getD 1 0 = 36 then askN l 36 0 2 else none
def Rel5 : Option (UInt8 × Int × List UInt8 × Nat) → Int × ByteArray × Int × Int × Bool → Prop
  | some (k, st, w, n), a => a = ((k.toNat : Int), B w, st, (n : Int), true)
  | none, a => a.2.2.2.2 = false
theorem askN_some {l : List UInt8} {k : UInt8} {st : Int} {n : Nat} {x : UInt8 × Int × List UInt8 × Nat} (h : askN l k st n = some x) (hn : n ≤ l.length) : x.1 = k ∧ n < x.2.2.2 ∧ x.2.2.2 ≤ l.length ∧ x.2.2.1.length ≤ l.length := by
  unfold askN at h
  obtain ⟨⟨w, m⟩, h1, h2⟩ := Option.map_eq_some_iff.1 h
  subst h2
  have := nameS_size h1
  rw [List.length_drop] at this
  exact ⟨rfl, by simp only; omega, by simp only; omega, by simp only; omega⟩
theorem askS_some {l : List UInt8} {x : UInt8 × Int × List UInt8 × Nat} (h : askS l = some x) : (x.1 = 110 ∨ x.1 = 42 ∨ x.1 = 36) ∧ 2 < x.2.2.2 ∧ x.2.2.2 ≤ l.length ∧ x.2.2.1.length ≤ l.length := by
  unfold askS at h
  split at h
  · cases h
  · rename_i hl
    split at h
    · cases h
    · split at h
      · split at h
        · have := askN_some h (by omega); exact ⟨.inl this.1, by omega, this.2.2⟩
        · split at h
          · have := askN_some h (by omega); exact ⟨.inl this.1, by omega, this.2.2⟩
          · have := askN_some h (by omega); exact ⟨.inl this.1, by omega, this.2.2⟩
      · split at h
        · have := askN_some h (by omega); exact ⟨.inr (.inl this.1), by omega, this.2.2⟩
        · split at h
          · have := askN_some h (by omega); exact ⟨.inr (.inr this.1), by omega, this.2.2⟩
          · cases h
theorem askAt_f (l : List UInt8) (hn : l.length ≤ 1048576) (k : UInt8) (st : Int) (n : Nat) (h : n ≤ l.length) : ∃ a, askAt (B l) (k.toNat : Int) st (n : Int) = some a ∧ Rel5 (askN l k st n) a := by
  unfold askAt askN
  have e : (B l).extract ((n : Int)).toNat (B l).size = B (l.drop n) := by rw [Int.toNat_natCast, extract_B, size_B, List.take_of_length_le (by rw [List.length_drop]; omega)]
  rw [e, name_f _ (by rw [List.length_drop]; omega), Option.bind_some]
  cases hq : nameS (l.drop n) with
  | none => exact ⟨_, rfl, rfl⟩
  | some q =>
    obtain ⟨w, m⟩ := q
    have := nameS_size hq
    rw [List.length_drop] at this
    refine ⟨_, rfl, ?_⟩
    simp only [Option.map_some, Rel5, Prod.mk.injEq, true_and]
    refine ⟨by rw [w64 (by omega) (by omega)]; omega, decide_eq_true (by omega)⟩
theorem ask_f (l : List UInt8) (hn : l.length ≤ 1048576) : ∃ a, askF (B l) = some a ∧ Rel5 (askS l) a := by
  unfold askF askS
  rw [size_B]
  by_cases h3 : l.length < 3
  · rw [if_pos (by omega), if_pos h3]
    exact ⟨_, rfl, rfl⟩
  · have b0 := bt_D l 0 (by omega)
    have b1 := bt_D l 1 (by omega)
    have b2 := bt_D l 2 (by omega)
    simp only [Int.ofNat_zero, Int.cast_ofNat_Int] at b0 b1 b2
    rw [if_neg (by omega), if_neg h3]
    have e0 : bt (B l) 0 = ((l.getD 0 0).toNat : Int) := b0
    have e1 : bt (B l) 1 = ((l.getD 1 0).toNat : Int) := b1
    have e2 : bt (B l) 2 = ((l.getD 2 0).toNat : Int) := b2
    rw [e0, e1, e2]
    by_cases h0 : l.getD 0 0 = 92
    · rw [if_pos ((eqn _ 92 92 rfl).2 h0), if_neg (show ¬ (l.getD 0 0 ≠ 92) from fun h => h h0)]
      by_cases h110 : l.getD 1 0 = 110
      · rw [if_pos ((eqn _ 110 110 rfl).2 h110), if_pos h110]
        by_cases h43 : l.getD 2 0 = 43
        · rw [if_pos ((eqn _ 43 43 rfl).2 h43), if_pos h43]
          exact askAt_f l hn 110 1 3 (by omega)
        · rw [if_neg (fun h => h43 ((eqn _ 43 43 rfl).1 h)), if_neg h43]
          by_cases h45 : l.getD 2 0 = 45
          · rw [if_pos ((eqn _ 45 45 rfl).2 h45), if_pos h45]
            exact askAt_f l hn 110 (-1) 3 (by omega)
          · rw [if_neg (fun h => h45 ((eqn _ 45 45 rfl).1 h)), if_neg h45]
            exact askAt_f l hn 110 0 2 (by omega)
      · rw [if_neg (fun h => h110 ((eqn _ 110 110 rfl).1 h)), if_neg h110]
        by_cases h42 : l.getD 1 0 = 42
        · rw [if_pos ((eqn _ 42 42 rfl).2 h42), if_pos h42]
          exact askAt_f l hn 42 0 2 (by omega)
        · rw [if_neg (fun h => h42 ((eqn _ 42 42 rfl).1 h)), if_neg h42]
          by_cases h36 : l.getD 1 0 = 36
          · rw [if_pos ((eqn _ 36 36 rfl).2 h36), if_pos h36]
            exact askAt_f l hn 36 0 2 (by omega)
          · rw [if_neg (fun h => h36 ((eqn _ 36 36 rfl).1 h)), if_neg h36]
            exact ⟨_, rfl, rfl⟩
    · rw [if_neg (fun h => h0 ((eqn _ 92 92 rfl).1 h)), if_pos (show l.getD 0 0 ≠ 92 from h0)]
      exact ⟨_, rfl, rfl⟩
/-! ### the specification's -/
theorem at_name (l : List UInt8) (hn : l.length ≤ 1048576) (k : UInt8) (st : Int) (n : Nat) (h : n ≤ l.length) (G : Nat → Option (Int × ByteArray × Int × Int × Bool))
    (hG : ∀ j, G (j + 1) = (frisketref04_name.f j (B l) (n : Int)).bind fun bt113 => (some ((k.toNat : Int), bt113.1, st, bt113.2, decide (bt113.2 > 0)))) : ∃ a, Ev G a ∧ Rel5 (askN l k st n) a := by
  unfold askN
  have h1 := rname_f l hn n h
  cases hq : nameS (l.drop n) with
  | none =>
    rw [hq] at h1
    refine ⟨((k.toNat : Int), B [], st, -1, false), ?_, rfl⟩
    exact Ev.bindStep (F := fun _ bt113 => (some ((k.toNat : Int), bt113.1, st, bt113.2, decide (bt113.2 > 0)))) h1 hG (Ev.now _)
  | some q =>
    obtain ⟨w, m⟩ := q
    have := nameS_size hq
    rw [List.length_drop] at this
    rw [hq] at h1
    refine ⟨((k.toNat : Int), B w, st, ((n + m : Nat) : Int), true), ?_, rfl⟩
    refine Ev.bindStep (F := fun _ bt113 => (some ((k.toNat : Int), bt113.1, st, bt113.2, decide (bt113.2 > 0)))) h1 hG ?_
    refine Ev.congr (f := fun _ => some ((k.toNat : Int), B w, st, ((n + m : Nat) : Int), true)) (fun _ => ?_) (Ev.now _)
    simp only [nameR, Option.some.injEq, Prod.mk.injEq, true_and]
    exact decide_eq_true (by omega)
theorem at_f (l : List UInt8) (hn : l.length ≤ 1048576) : ∃ a, Ev (fun k => frisketref04_At.f k (B l)) a ∧ Rel5 (askS l) a := by
  unfold askS
  have hno : Ev (fun k => frisketref04_At.j0 k (B l) true) (0, (⟨#[]⟩ : ByteArray), 0, 0, false) := Ev.done fun k => by rw [frisketref04_At.j0, if_pos rfl]
  by_cases h3 : l.length < 3
  · rw [if_pos h3]
    refine ⟨_, Ev.congr (fun k => ?_) hno, rfl⟩
    rw [frisketref04_At.f, if_pos (by rw [size_B]; omega)]
  · have e0 : bt (B l) 0 = ((l.getD 0 0).toNat : Int) := bt_D l 0 (by omega)
    have e1 : bt (B l) 1 = ((l.getD 1 0).toNat : Int) := bt_D l 1 (by omega)
    have e2 : bt (B l) 2 = ((l.getD 2 0).toNat : Int) := bt_D l 2 (by omega)
    rw [if_neg h3]
    have hf : ∀ k, frisketref04_At.f k (B l) = (if (bt (B l) 0) = 92 then (if (bt (B l) 1) = 110 then (frisketref04_At.j0 k (B l) false) else (if (bt (B l) 1) = 42 then (frisketref04_At.j0 k (B l) false) else (frisketref04_At.j0 k (B l) ((bt (B l) 1) != 36)))) else (frisketref04_At.j0 k (B l) true)) := by
      intro k
      rw [frisketref04_At.f, if_neg (by rw [size_B]; omega), if_pos (by rw [size_B]; omega)]
      split
      · rw [if_pos (by rw [size_B]; omega)]
      · rfl
    by_cases h0 : l.getD 0 0 = 92
    · rw [if_neg (show ¬ (l.getD 0 0 ≠ 92) from fun h => h h0)]
      have hf' : ∀ k, frisketref04_At.f k (B l) = (if (bt (B l) 1) = 110 then (frisketref04_At.j0 k (B l) false) else (if (bt (B l) 1) = 42 then (frisketref04_At.j0 k (B l) false) else (frisketref04_At.j0 k (B l) ((bt (B l) 1) != 36)))) := by
        intro k; rw [hf, if_pos (by rw [e0]; exact (eqn _ 92 92 rfl).2 h0)]
      by_cases h110 : l.getD 1 0 = 110
      · have hb1 : bt (B l) 1 = 110 := by rw [e1]; exact (eqn _ 110 110 rfl).2 h110
        rw [if_pos h110]
        have hj : ∀ k, frisketref04_At.f (k + 1) (B l) = frisketref04_At.j1 k (B l) 2 ((bt (B l) 2) == 43) 110 (⟨#[]⟩ : ByteArray) 0 0 := by
          intro k
          rw [hf', if_pos hb1, frisketref04_At.j0, if_neg Bool.false_ne_true, if_pos (by rw [size_B]; omega), if_pos hb1, if_pos (by rw [size_B]; omega), hb1]
        by_cases h43 : l.getD 2 0 = 43
        · rw [if_pos h43]
          obtain ⟨a, ha, hr⟩ := at_name l hn 110 1 3 (by omega) (fun k => frisketref04_At.j1 k (B l) 2 ((bt (B l) 2) == 43) 110 (⟨#[]⟩ : ByteArray) 0 0) (fun j => by
            rw [frisketref04_At.j1, if_pos (by rw [e2]; exact beq_iff_eq.2 ((eqn _ 43 43 rfl).2 h43))]
            rfl)
          exact ⟨a, Ev.goes ha hj, hr⟩
        · rw [if_neg h43]
          have n43 : ((bt (B l) 2) == 43) = false := by rw [e2]; exact beq_eq_false_iff_ne.2 (fun h => h43 ((eqn _ 43 43 rfl).1 h))
          by_cases h45 : l.getD 2 0 = 45
          · rw [if_pos h45]
            obtain ⟨a, ha, hr⟩ := at_name l hn 110 (-1) 3 (by omega) (fun k => frisketref04_At.j1 k (B l) 2 ((bt (B l) 2) == 43) 110 (⟨#[]⟩ : ByteArray) 0 0) (fun j => by
              rw [frisketref04_At.j1, n43, if_neg Bool.false_ne_true, if_pos (by rw [size_B]; omega), if_pos hb1, if_pos (by rw [size_B]; omega), if_pos (by rw [e2]; exact (eqn _ 45 45 rfl).2 h45)]
              rfl)
            exact ⟨a, Ev.goes ha hj, hr⟩
          · rw [if_neg h45]
            obtain ⟨a, ha, hr⟩ := at_name l hn 110 0 2 (by omega) (fun k => frisketref04_At.j1 k (B l) 2 ((bt (B l) 2) == 43) 110 (⟨#[]⟩ : ByteArray) 0 0) (fun j => by
              rw [frisketref04_At.j1, n43, if_neg Bool.false_ne_true, if_pos (by rw [size_B]; omega), if_pos hb1, if_pos (by rw [size_B]; omega), if_neg (by rw [e2]; exact fun h => h45 ((eqn _ 45 45 rfl).1 h))]
              rfl)
            exact ⟨a, Ev.goes ha hj, hr⟩
      · have n110 : ¬ bt (B l) 1 = 110 := by rw [e1]; exact fun h => h110 ((eqn _ 110 110 rfl).1 h)
        rw [if_neg h110]
        have hj1 : ∀ (c : UInt8), bt (B l) 1 = (c.toNat : Int) → (∀ k, frisketref04_At.f k (B l) = frisketref04_At.j0 k (B l) false) → ∃ a, Ev (fun k => frisketref04_At.f k (B l)) a ∧ Rel5 (askN l c 0 2) a := by
          intro c hc hk
          obtain ⟨a, ha, hr⟩ := at_name l hn c 0 2 (by omega) (fun k => frisketref04_At.j1 k (B l) 2 false (c.toNat : Int) (⟨#[]⟩ : ByteArray) 0 0) (fun j => by
            rw [frisketref04_At.j1, if_neg Bool.false_ne_true, if_pos (by rw [size_B]; omega), if_neg n110]
            rfl)
          refine ⟨a, Ev.goes ha (fun k => ?_), hr⟩
          rw [hk, frisketref04_At.j0, if_neg Bool.false_ne_true, if_pos (by rw [size_B]; omega), if_neg n110, hc]
        by_cases h42 : l.getD 1 0 = 42
        · rw [if_pos h42]
          have hb1 : bt (B l) 1 = 42 := by rw [e1]; exact (eqn _ 42 42 rfl).2 h42
          exact hj1 42 hb1 (fun k => by rw [hf', if_neg n110, if_pos hb1])
        · have n42 : ¬ bt (B l) 1 = 42 := by rw [e1]; exact fun h => h42 ((eqn _ 42 42 rfl).1 h)
          rw [if_neg h42]
          by_cases h36 : l.getD 1 0 = 36
          · rw [if_pos h36]
            have hb1 : bt (B l) 1 = 36 := by rw [e1]; exact (eqn _ 36 36 rfl).2 h36
            exact hj1 36 hb1 (fun k => by rw [hf', if_neg n110, if_neg n42, hb1]; rfl)
          · have n36 : ((bt (B l) 1) != 36) = true := by rw [e1]; exact bne_iff_ne.2 (fun h => h36 ((eqn _ 36 36 rfl).1 h))
            rw [if_neg h36]
            refine ⟨_, Ev.congr (fun k => ?_) hno, rfl⟩
            rw [hf', if_neg n110, if_neg n42, n36]
    · rw [if_pos (show l.getD 0 0 ≠ 92 from h0)]
      refine ⟨_, Ev.congr (fun k => ?_) hno, rfl⟩
      rw [hf, if_neg (by rw [e0]; exact fun h => h0 ((eqn _ 92 92 rfl).1 h))]
/-! ### widths -/
def widthS (l : List UInt8) : Option (List UInt8 × Nat) :=
  if l.length < 4 then none else if l.getD 0 0 ≠ 92 then none else if l.getD 1 0 ≠ 119 then none else if l.getD 2 0 = 92 then none
  else if l.getD 2 0 ∈ l.drop 3 then some ((l.drop 3).takeWhile (· != l.getD 2 0), ((l.drop 3).takeWhile (· != l.getD 2 0)).length + 4) else none
theorem twq_split (q : UInt8) (u v : List UInt8) (h : q ∉ u) : (u ++ q :: v).takeWhile (· != q) = u := by
  rw [List.takeWhile_append_of_pos (by intro x hx; simp; rintro rfl; exact h hx)]
  simp
theorem widthS_some {l : List UInt8} {x : List UInt8 × Nat} (h : widthS l = some x) : 4 ≤ x.2 ∧ x.2 ≤ l.length ∧ x.1.length < l.length := by
  unfold widthS at h
  split at h
  · cases h
  · split at h
    · cases h
    · split at h
      · cases h
      · split at h
        · cases h
        · split at h
          · rename_i hm
            simp only [Option.some.injEq] at h
            subst h
            obtain ⟨u, v, e, hu⟩ : ∃ u v, l.drop 3 = u ++ l.getD 2 0 :: v ∧ l.getD 2 0 ∉ u := by
              rcases idx_split (l.drop 3) (l.getD 2 0) with ⟨h1, _⟩ | ⟨u, v, e, hu, _⟩
              · exact absurd hm h1
              · exact ⟨u, v, e, hu⟩
            have hl := congrArg List.length e
            rw [List.length_drop, List.length_append, List.length_cons] at hl
            rw [e, twq_split _ u v hu]
            simp only
            omega
          · cases h
theorem width_f (l : List UInt8) (hn : l.length ≤ 1048576) : Xa.expand_width.f 1 (B l) = some (match widthS l with | some (w, n) => (B w, (n : Int)) | none => (B [], 0)) := by
  unfold widthS
  have hno : Xa.expand_width.j0 1 (B l) true = some (B [], 0) := by rw [Xa.expand_width.j0, if_pos rfl]; rfl
  by_cases h4 : l.length < 4
  · rw [if_pos h4, Xa.expand_width.f, if_pos (by rw [size_B]; omega), hno]
  · have e0 : bt (B l) 0 = ((l.getD 0 0).toNat : Int) := bt_D l 0 (by omega)
    have e1 : bt (B l) 1 = ((l.getD 1 0).toNat : Int) := bt_D l 1 (by omega)
    have e2 : bt (B l) 2 = ((l.getD 2 0).toNat : Int) := bt_D l 2 (by omega)
    rw [if_neg h4, Xa.expand_width.f, if_neg (by rw [size_B]; omega), if_pos (by rw [size_B]; omega), e0]
    by_cases h0 : l.getD 0 0 = 92
    · rw [if_pos ((eqn _ 92 92 rfl).2 h0), if_neg (show ¬ (l.getD 0 0 ≠ 92) from fun h => h h0), if_pos (by rw [size_B]; omega), e1]
      by_cases h1 : l.getD 1 0 = 119
      · rw [if_pos ((eqn _ 119 119 rfl).2 h1), if_neg (show ¬ (l.getD 1 0 ≠ 119) from fun h => h h1), if_pos (by rw [size_B]; omega), e2]
        by_cases h2 : l.getD 2 0 = 92
        · rw [if_pos h2, beq_iff_eq.2 ((eqn _ 92 92 rfl).2 h2), hno]
        · rw [if_neg h2, beq_eq_false_iff_ne.2 (fun h => h2 ((eqn _ 92 92 rfl).1 h)), Xa.expand_width.j0, if_neg Bool.false_ne_true, if_pos (by rw [size_B]; omega), if_pos (by rw [size_B]; omega)]
          have ex : (B l).extract 3 (B l).size = B (l.drop 3) := by rw [extract_B, size_B, List.take_of_length_le (by rw [List.length_drop]; omega)]
          have hi : Xa.strings_IndexByte.f (B (l.drop 3)) (bt (B l) 2) = some (Lib.indexByte (l.drop 3) (l.getD 2 0)) := by
            unfold Xa.strings_IndexByte.f
            rw [data_B, e2, Int.toNat_natCast]
            congr 2
            simp
          rw [ex, hi, Option.bind_some]
          rcases idx_split (l.drop 3) (l.getD 2 0) with ⟨hm, he⟩ | ⟨u, v, he, hu, hx⟩
          · rw [he, if_pos (by omega), if_neg hm]
            rfl
          · have hl := congrArg List.length he
            rw [List.length_drop, List.length_append, List.length_cons] at hl
            rw [hx, if_neg (by omega), w64 (x := 3 + (u.length : Int)) (by omega) (by omega), if_pos (by omega), if_pos (by rw [size_B]; omega), if_pos (by rw [he]; simp), he, twq_split _ u v hu, extract_B,
              show (3 + (u.length : Int)).toNat - 3 = u.length by omega, he, List.take_left' rfl, w64 (by omega) (by omega)]
            simp
      · rw [if_neg (fun h => h1 ((eqn _ 119 119 rfl).1 h)), if_pos (show l.getD 1 0 ≠ 119 from h1), hno]
    · rw [if_neg (fun h => h0 ((eqn _ 92 92 rfl).1 h)), if_pos (show l.getD 0 0 ≠ 92 from h0), hno]
theorem rwidth_l (l : List UInt8) (hn : l.length ≤ 1048576) (h4 : 4 ≤ l.length) : ∀ (d m : Nat), 3 + m + d = l.length → l.getD 2 0 ∉ (l.drop 3).take m →
    Ev (fun k => frisketref04_WidthAt.l0 k (B l) ((3 + m : Nat) : Int)) (match (if l.getD 2 0 ∈ l.drop 3 then some ((l.drop 3).takeWhile (· != l.getD 2 0), ((l.drop 3).takeWhile (· != l.getD 2 0)).length + 4) else none) with | some (w, n) => (B w, (n : Int)) | none => (B [], -1))
  | 0, m, hd, hm => by
    have e : (l.drop 3).take m = l.drop 3 := List.take_of_length_le (by rw [List.length_drop]; omega)
    rw [e] at hm
    rw [if_neg hm]
    refine Ev.done (fun k => ?_)
    rw [frisketref04_WidthAt.l0, if_neg (by rw [size_B]; omega)]
    rfl
  | d + 1, m, hd, hm => by
    have hlt : 3 + m < l.length := by omega
    have e2 : bt (B l) 2 = ((l.getD 2 0).toNat : Int) := bt_D l 2 (by omega)
    have hdm : (l.drop 3)[m]'(by rw [List.length_drop]; omega) = l[3 + m] := by rw [List.getElem_drop]
    by_cases hq : l[3 + m] = l.getD 2 0
    · have hsp : l.drop 3 = (l.drop 3).take m ++ l.getD 2 0 :: (l.drop 3).drop (m + 1) := by
        rw [← hq, ← hdm, ← List.drop_eq_getElem_cons, List.take_append_drop]
      have hl : ((l.drop 3).take m).length = m := by rw [List.length_take, List.length_drop]; omega
      have htw : (l.drop 3).takeWhile (· != l.getD 2 0) = (l.drop 3).take m := by
        rw [hsp, twq_split _ _ _ hm, List.take_left' hl]
      have hmem : l.getD 2 0 ∈ l.drop 3 := by rw [hsp]; simp
      rw [if_pos hmem, htw, hl]
      refine Ev.done (fun k => ?_)
      rw [frisketref04_WidthAt.l0, if_pos (by rw [size_B]; omega), if_pos (by omega), if_pos (by rw [size_B]; omega), bt_B l _ hlt, e2, hq, if_pos rfl, if_pos (by omega), if_pos (by rw [size_B]; omega), extract_B, w64s hlt (by omega)]
      rw [Int.toNat_natCast, show 3 + m - 3 = m by omega]
      simp
      omega
    · have hm' : l.getD 2 0 ∉ (l.drop 3).take (m + 1) := by
        rw [List.take_succ_eq_append_getElem (by rw [List.length_drop]; omega), hdm]
        intro h
        rcases List.mem_append.1 h with h | h
        · exact hm h
        · exact hq (List.mem_singleton.1 h).symm
      refine Ev.goes (rwidth_l l hn h4 d (m + 1) (by omega) hm') (fun k => ?_)
      rw [frisketref04_WidthAt.l0, if_pos (by rw [size_B]; omega), if_pos (by omega), if_pos (by rw [size_B]; omega), bt_B l _ hlt, e2, if_neg (fun h => hq (UInt8.toNat_inj.1 (by omega))), w64s hlt (by omega)]
      rfl
theorem rwidth_f (l : List UInt8) (hn : l.length ≤ 1048576) : Ev (fun k => frisketref04_WidthAt.f k (B l)) (match widthS l with | some (w, n) => (B w, (n : Int)) | none => (B [], -1)) := by
  unfold widthS
  have hno : Ev (fun k => frisketref04_WidthAt.j0 k (B l) true) (B [], -1) := Ev.done fun k => by rw [frisketref04_WidthAt.j0, if_pos rfl]; rfl
  by_cases h4 : l.length < 4
  · rw [if_pos h4]
    refine Ev.congr (fun k => ?_) hno
    rw [frisketref04_WidthAt.f, if_pos (by rw [size_B]; omega)]
  · have e0 : bt (B l) 0 = ((l.getD 0 0).toNat : Int) := bt_D l 0 (by omega)
    have e1 : bt (B l) 1 = ((l.getD 1 0).toNat : Int) := bt_D l 1 (by omega)
    have e2 : bt (B l) 2 = ((l.getD 2 0).toNat : Int) := bt_D l 2 (by omega)
    rw [if_neg h4]
    by_cases h0 : l.getD 0 0 = 92
    · rw [if_neg (show ¬ (l.getD 0 0 ≠ 92) from fun h => h h0)]
      by_cases h1 : l.getD 1 0 = 119
      · rw [if_neg (show ¬ (l.getD 1 0 ≠ 119) from fun h => h h1)]
        by_cases h2 : l.getD 2 0 = 92
        · rw [if_pos h2]
          refine Ev.congr (fun k => ?_) hno
          rw [frisketref04_WidthAt.f, if_neg (by rw [size_B]; omega), if_pos (by rw [size_B]; omega), e0, if_pos ((eqn _ 92 92 rfl).2 h0), if_pos (by rw [size_B]; omega), e1, if_pos ((eqn _ 119 119 rfl).2 h1), if_pos (by rw [size_B]; omega), e2, beq_iff_eq.2 ((eqn _ 92 92 rfl).2 h2)]
        · rw [if_neg h2]
          have h := rwidth_l l hn (by omega) (l.length - 3) 0 (by omega) (by simp)
          refine Ev.goes h (fun k => ?_)
          rw [frisketref04_WidthAt.f, if_neg (by rw [size_B]; omega), if_pos (by rw [size_B]; omega), e0, if_pos ((eqn _ 92 92 rfl).2 h0), if_pos (by rw [size_B]; omega), e1, if_pos ((eqn _ 119 119 rfl).2 h1), if_pos (by rw [size_B]; omega), e2, beq_eq_false_iff_ne.2 (fun h => h2 ((eqn _ 92 92 rfl).1 h)), frisketref04_WidthAt.j0, if_neg Bool.false_ne_true]
          rfl
      · rw [if_pos (show l.getD 1 0 ≠ 119 from h1)]
        refine Ev.congr (fun k => ?_) hno
        rw [frisketref04_WidthAt.f, if_neg (by rw [size_B]; omega), if_pos (by rw [size_B]; omega), e0, if_pos ((eqn _ 92 92 rfl).2 h0), if_pos (by rw [size_B]; omega), e1, if_neg (fun h => h1 ((eqn _ 119 119 rfl).1 h))]
    · rw [if_pos (show l.getD 0 0 ≠ 92 from h0)]
      refine Ev.congr (fun k => ?_) hno
      rw [frisketref04_WidthAt.f, if_neg (by rw [size_B]; omega), if_pos (by rw [size_B]; omega), e0, if_neg (fun h => h0 ((eqn _ 92 92 rfl).1 h))]
end Go.Proofs.YtifpjidkfemkfaaDoor.Pure
