/- Layer 4 (expand), the plain law: which texts are plain, and which names stand in one, of both sides. -/
import Derived.Test.YtifpjidkfemkfaaDoorYXT3
import Derived.Test.YtifpjidkfemkfaaDoorYa0
import Derived.Test.YtifpjidkfemkfaaDoorYb0
import Derived.Test.YtifpjidkfemkfaaDoorYb2
import Derived.Test.YtifpjidkfemkfaaDoorYb4
import Derived.Test.YtifpjidkfemkfaaDoorYb5
set_option linter.unusedVariables false
set_option linter.unusedSimpArgs false
namespace Go.Proofs.YtifpjidkfemkfaaDoor.Pure
open Go.RowKit Go.Proofs.YtifpjidkfemkfaaDoor Go.Proofs.YtifpjidkfemkfaaDoor.Xb Go.Proofs.YtifpjidkfemkfaaDoorW.PrintWords Go.Proofs.YtifpjidkfemkfaaDoorW.PrintLast Go.Proofs.YtifpjidkfemkfaaDoorW.PrintMore
def setc (c : UInt8) : Bool := ([110, 42, 36, 119] : List UInt8).contains c
theorem setc_iff (c : UInt8) : setc c = true ↔ c = 110 ∨ c = 42 ∨ c = 36 ∨ c = 119 := by unfold setc; simp
/-- What a walk does at a backslash. -/
def stepF {σ : Type} (st : σ → Int → ByteArray → ByteArray → Option (σ × Bool)) (k : Nat) (s : List UInt8) (x : σ) : Option (Bool × σ) :=
  match askS s with
  | some a => (st x (a.1.toNat : Int) (B a.2.2.1) (B [])).bind fun q => if q.2 = true then walkF st k (B (s.drop a.2.2.2)) q.1 else some (false, q.1)
  | none => match widthS s with
    | some w => (st x 119 (B []) (B w.1)).bind fun q => if q.2 = true then walkF st k (B (s.drop w.2)) q.1 else some (false, q.1)
    | none => if s.length = 1 then some (false, x) else if s.getD 1 0 = 34 then some (true, x) else if setc (s.getD 1 0) = true then walkF st k (B (s.drop 1)) x else walkF st k (B (s.drop 2)) x
theorem drop_B (l : List UInt8) (n : Nat) : (B l).extract n (B l).size = B (l.drop n) := by
  rw [extract_B, size_B, List.take_of_length_le (by rw [List.length_drop]; omega)]
theorem walk_none {σ : Type} (st : σ → Int → ByteArray → ByteArray → Option (σ × Bool)) (k : Nat) (l : List UInt8) (x : σ) (h : 92 ∉ l) : walkF st (k + 1) (B l) x = some (false, x) := by
  rw [walkF, toList_B, data_B]
  by_cases h0 : l = []
  · rw [if_pos h0]
  · rw [if_neg h0]
    rcases idx_split l 92 with ⟨_, he⟩ | ⟨u, v, e, _, _⟩
    · rw [if_pos (by rw [he]; omega)]
    · exact absurd (by rw [e]; simp) h
theorem walk_some {σ : Type} (st : σ → Int → ByteArray → ByteArray → Option (σ × Bool)) (k : Nat) (u v : List UInt8) (hn : (u ++ 92 :: v).length ≤ 1048576) (x : σ) (h : 92 ∉ u) : walkF st (k + 1) (B (u ++ 92 :: v)) x = stepF st k (92 :: v) x := by
  have hi : Lib.indexByte (u ++ 92 :: v) 92 = (u.length : Int) := by
    rcases idx_split (u ++ 92 :: v) 92 with ⟨h1, _⟩ | ⟨u', v', e, hu, hx⟩
    · exact absurd (by simp) h1
    · rw [hx]
      have : u' = u := by
        have h1 := twq_split 92 u v h
        rw [e, twq_split 92 u' v' hu] at h1
        exact h1
      rw [this]
  have hl : v.length + 1 ≤ 1048576 := by rw [List.length_append, List.length_cons] at hn; omega
  have hs1 : (B (u ++ 92 :: v)).extract ((u.length : Int)).toNat (B (u ++ 92 :: v)).size = B (92 :: v) := by rw [Int.toNat_natCast, drop_B, List.drop_left' rfl]
  obtain ⟨a, ha, hr⟩ := ask_f (92 :: v) (by simpa using hl)
  rw [walkF, toList_B, if_neg (by simp), data_B, hi, if_neg (by omega), if_pos (by rw [size_B, List.length_append]; omega), hs1, ha, Option.bind_some, stepF]
  cases hq : askS (92 :: v) with
  | some q =>
    rw [hq] at hr
    have hr' : a = ((q.1.toNat : Int), B q.2.2.1, q.2.1, (q.2.2.2 : Int), true) := hr
    have hz := askS_some hq
    subst hr'
    rw [if_pos rfl]
    simp only
    congr 1
    funext r
    split
    · rw [if_pos (by omega), if_pos (by rw [size_B]; omega), Int.toNat_natCast, drop_B]
    · rfl
  | none =>
    rw [hq] at hr
    have hr' : a.2.2.2.2 = false := hr
    rw [hr', if_neg Bool.false_ne_true, width_f (92 :: v) (by simpa using hl)]
    cases hw : widthS (92 :: v) with
    | some w =>
      obtain ⟨tx, n⟩ := w
      have hz := widthS_some hw
      simp only [Option.bind_some]
      rw [if_pos (by omega)]
      congr 1
      funext r
      split
      · rw [if_pos (by rw [size_B]; omega), Int.toNat_natCast, drop_B]
      · rfl
    | none =>
      simp only [Option.bind_some]
      rw [if_neg (by omega), size_B]
      by_cases h1 : (92 :: v).length = 1
      · rw [if_pos (by omega), if_pos h1]
      · have hlt : 1 < (92 :: v).length := by rw [List.length_cons] at h1 ⊢; omega
        have e1 : bt (B (92 :: v)) 1 = (((92 :: v).getD 1 0).toNat : Int) := bt_D (92 :: v) 1 hlt
        rw [if_neg (by omega), if_neg h1, if_pos (by omega), e1]
        by_cases h34 : (92 :: v).getD 1 0 = 34
        · rw [if_pos ((eqn _ 34 34 rfl).2 h34), if_pos h34]
        · rw [if_neg (fun h => h34 ((eqn _ 34 34 rfl).1 h)), if_neg h34, Int.toNat_natCast]
          have ec : ((92 :: v).getD 1 0).toNat.toUInt8 = (92 :: v).getD 1 0 := by simp
          rw [ec]
          have hk := contains_index [110, 42, 36, 119] ((92 :: v).getD 1 0)
          by_cases hs : setc ((92 :: v).getD 1 0) = true
          · rw [if_pos hs, if_pos (of_decide_eq_true (hk.trans hs)), ← size_B, drop_B]
          · rw [if_neg hs, if_neg (fun h => hs (hk.symm.trans (decide_eq_true h))), ← size_B, drop_B]
theorem no34 {s : List UInt8} (h : s.getD 1 0 = 34) : askS s = none ∧ widthS s = none := by
  unfold askS widthS
  rw [h]
  constructor
  · split
    · rfl
    · split
      · rfl
      · rw [if_neg (by decide), if_neg (by decide), if_neg (by decide)]
  · split
    · rfl
    · split
      · rfl
      · rw [if_pos (by decide)]
theorem short1 {s : List UInt8} (h : s.length ≤ 1) : askS s = none ∧ widthS s = none := by
  unfold askS widthS
  exact ⟨if_pos (by omega), if_pos (by omega)⟩
theorem widthS_len {l : List UInt8} {x : List UInt8 × Nat} (h : widthS l = some x) : x.2 = x.1.length + 4 := by
  unfold widthS at h
  split at h
  · cases h
  · split at h
    · cases h
    · split at h
      · cases h
      · split at h
        · cases h
        · split at h
          · simp only [Option.some.injEq] at h
            subst h
            rfl
          · cases h
/-! ### Plain -/
def plainL : Nat → List UInt8 → Bool
  | 0, _ => true
  | f + 1, l => if l = [] then true else if l.getD 0 0 ≠ 92 ∨ l.length = 1 then plainL f (l.drop 1)
    else if (askS l).isSome = true ∨ (widthS l).isSome = true ∨ l.getD 1 0 = 34 then false
    else if setc (l.getD 1 0) = true then plainL f (l.drop 1) else plainL f (l.drop 2)
theorem plainL_fuel : ∀ (f g : Nat) (l : List UInt8), l.length < f → l.length < g → plainL f l = plainL g l
  | 0, _, l, h, _ => by omega
  | _, 0, l, _, h => by omega
  | f + 1, g + 1, l, h1, h2 => by
    rw [plainL, plainL]
    by_cases h0 : l = []
    · rw [if_pos h0, if_pos h0]
    · have hl : 0 < l.length := by cases l with | nil => exact absurd rfl h0 | cons a b => simp
      have e1 := plainL_fuel f g (l.drop 1) (by rw [List.length_drop]; omega) (by rw [List.length_drop]; omega)
      have e2 := plainL_fuel f g (l.drop 2) (by rw [List.length_drop]; omega) (by rw [List.length_drop]; omega)
      rw [e1, e2]
theorem plain_skip : ∀ (u w : List UInt8) (f : Nat), 92 ∉ u → plainL (f + u.length) (u ++ w) = plainL f w
  | [], w, f, _ => rfl
  | b :: u, w, f, h => by
    have hb : b ≠ 92 := fun e => h (by rw [e]; simp)
    have hu : 92 ∉ u := fun e => h (List.mem_cons_of_mem _ e)
    rw [List.length_cons, ← Nat.add_assoc, List.cons_append, plainL, if_neg (by simp), if_pos (.inl (by simpa using hb))]
    exact plain_skip u w f hu
theorem pplain : ∀ (n : Nat) (l : List UInt8), l.length ≤ n → n ≤ 1048576 → ∀ k, l.length < k → ∃ c a, walkF stP k (B l) false = some (c, a) ∧ (!a && !c) = plainL (l.length + 1) l := by
  intro n
  induction n with
  | zero =>
    intro l hl _ k hk
    obtain ⟨k, rfl⟩ : ∃ m, k = m + 1 := ⟨k - 1, by omega⟩
    have h0 : l = [] := List.eq_nil_of_length_eq_zero (by omega)
    subst h0
    exact ⟨false, false, walk_none _ _ _ _ (by simp), rfl⟩
  | succ n ih =>
    intro l hl hn k hk
    obtain ⟨k, rfl⟩ : ∃ m, k = m + 1 := ⟨k - 1, by omega⟩
    rcases idx_split l 92 with ⟨hm, _⟩ | ⟨u, v, rfl, hu, _⟩
    · refine ⟨false, false, walk_none _ _ _ _ hm, ?_⟩
      have := plain_skip l [] 1 hm
      rw [List.append_nil, Nat.add_comm] at this
      rw [this]
      rfl
    · rw [walk_some _ _ _ _ (by omega) _ hu]
      have hlen : (u ++ 92 :: v).length + 1 = (92 :: v).length + 1 + u.length := by simp; omega
      rw [hlen, plain_skip u (92 :: v) _ hu]
      have hvl : (92 :: v).length ≤ n + 1 := by simp at hl ⊢; omega
      have hvk : (92 :: v).length ≤ k := by simp at hk ⊢; omega
      generalize hs : (92 :: v) = s at *
      have h0 : s ≠ [] := by rw [← hs]; simp
      have h92 : s.getD 0 0 = 92 := by rw [← hs]; rfl
      have hpos : 0 < s.length := by rw [← hs]; simp
      rw [stepF, plainL, if_neg h0]
      by_cases h1 : s.length = 1
      · obtain ⟨e1, e2⟩ := short1 (s := s) (by omega)
        rw [e1, e2, if_pos h1, if_pos (.inr h1)]
        refine ⟨false, false, rfl, ?_⟩
        have : s.drop 1 = [] := List.drop_of_length_le (by omega)
        rw [this, h1]
        rfl
      · rw [if_neg (show ¬ (s.getD 0 0 ≠ 92 ∨ s.length = 1) from fun h => h.elim (fun h => h h92) h1)]
        cases hq : askS s with
        | some q =>
          rw [if_pos (show (some q : Option (UInt8 × Int × List UInt8 × Nat)).isSome = true ∨ (widthS s).isSome = true ∨ s.getD 1 0 = 34 from .inl rfl)]
          exact ⟨false, true, rfl, rfl⟩
        | none =>
          cases hw : widthS s with
          | some w =>
            rw [if_pos (show (none : Option (UInt8 × Int × List UInt8 × Nat)).isSome = true ∨ (some w : Option (List UInt8 × Nat)).isSome = true ∨ s.getD 1 0 = 34 from .inr (.inl rfl))]
            exact ⟨false, true, rfl, rfl⟩
          | none =>
            simp only
            rw [if_neg h1]
            by_cases h34 : s.getD 1 0 = 34
            · rw [if_pos h34, if_pos (.inr (.inr h34))]
              exact ⟨true, false, rfl, rfl⟩
            · rw [if_neg h34, if_neg (show ¬ ((none : Option (UInt8 × Int × List UInt8 × Nat)).isSome = true ∨ (none : Option (List UInt8 × Nat)).isSome = true ∨ s.getD 1 0 = 34) from fun h => h.elim (fun h => by cases h) (fun h => h.elim (fun h => by cases h) h34))]
              by_cases hc : setc (s.getD 1 0) = true
              · rw [if_pos hc, if_pos hc]
                obtain ⟨c, a, h2, h3⟩ := ih (s.drop 1) (by rw [List.length_drop]; omega) (by omega) k (by rw [List.length_drop]; omega)
                refine ⟨c, a, h2, ?_⟩
                rw [h3]
                exact plainL_fuel _ _ _ (by omega) (by rw [List.length_drop]; omega)
              · rw [if_neg hc, if_neg hc]
                obtain ⟨c, a, h2, h3⟩ := ih (s.drop 2) (by rw [List.length_drop]; omega) (by omega) k (by rw [List.length_drop]; omega)
                refine ⟨c, a, h2, ?_⟩
                rw [h3]
                exact plainL_fuel _ _ _ (by omega) (by rw [List.length_drop]; omega)
theorem plain_f (l : List UInt8) (hn : l.length ≤ 1000000) : plainF (B l) = some (plainL (l.length + 1) l) := by
  obtain ⟨c, a, h1, h2⟩ := pplain l.length l (Nat.le_refl _) (by omega) (l.length + 1) (by omega)
  unfold plainF
  rw [size_B, h1, Option.bind_some, ← h2]
theorem rplain_l (l : List UInt8) (hn : l.length ≤ 1000000) : ∀ (f i : Nat), i ≤ l.length → l.length - i < f → Ev (fun k => frisketref04_Plain.l0 k (B l) (i : Int)) (plainL f (l.drop i))
  | 0, i, _, h => by omega
  | f + 1, i, hi, hf => by
    rw [plainL]
    by_cases hlt : i < l.length
    · have hne : l.drop i ≠ [] := by intro h; have := congrArg List.length h; rw [List.length_drop] at this; simp at this; omega
      have hg0 : (l.drop i).getD 0 0 = l[i] := by rw [List.getD_eq_getElem?_getD, List.getElem?_drop, Nat.add_zero, List.getElem?_eq_getElem hlt]; rfl
      have hd1 : (l.drop i).drop 1 = l.drop (i + 1) := by rw [List.drop_drop]
      have hd2 : (l.drop i).drop 2 = l.drop (i + 2) := by rw [List.drop_drop]
      have hl : (l.drop i).length = l.length - i := List.length_drop
      rw [if_neg hne, hg0, hd1, hd2, hl]
      have h1 := rplain_l l hn f (i + 1) (by omega) (by omega)
      have hskip : Ev (fun k => frisketref04_Plain.j1 k (B l) (i : Int) true) (plainL f (l.drop (i + 1))) := Ev.goes h1 fun k => by rw [frisketref04_Plain.j1, if_pos rfl, w64s hlt (by omega)]
      by_cases h92 : l[i] = 92
      · by_cases hl1 : l.length - i = 1
        · rw [if_pos (.inr hl1)]
          refine Ev.goes hskip (fun k => ?_)
          rw [frisketref04_Plain.l0, if_pos (by rw [size_B]; omega), if_pos (by omega), bt_B l i hlt, if_pos ((eqn _ 92 92 rfl).2 h92), w64s hlt (by omega), beq_iff_eq.2 (show (((i + 1 : Nat) : Int)) = ((B l).size : Int) by rw [size_B]; omega)]
        · have hlt2 : i + 1 < l.length := by omega
          have hg1 : (l.drop i).getD 1 0 = l[i + 1] := by rw [List.getD_eq_getElem?_getD, List.getElem?_drop, List.getElem?_eq_getElem hlt2]; rfl
          rw [if_neg (show ¬ (l[i] ≠ 92 ∨ l.length - i = 1) from fun h => h.elim (fun h => h h92) hl1), hg1]
          have hj : ∀ k, frisketref04_Plain.l0 (k + 1) (B l) (i : Int) = frisketref04_Plain.j1 k (B l) (i : Int) false := by
            intro k
            rw [frisketref04_Plain.l0, if_pos (by rw [size_B]; omega), if_pos (by omega), bt_B l i hlt, if_pos ((eqn _ 92 92 rfl).2 h92), w64s hlt (by omega), beq_eq_false_iff_ne.2 (show ¬ (((i + 1 : Nat) : Int)) = ((B l).size : Int) by rw [size_B]; omega)]
          have hw := rwidth_f (l.drop i) (by omega)
          obtain ⟨a, ha, hr⟩ := at_f (l.drop i) (by omega)
          have h2 := rplain_l l hn f (i + 2) (by omega) (by omega)
          have hj2t : Ev (fun k => frisketref04_Plain.j2 k (B l) (i : Int) true) false := Ev.done fun k => by rw [frisketref04_Plain.j2, if_pos rfl]
          have key : ∀ (wv : ByteArray × Int), Ev (fun k => frisketref04_WidthAt.f k (B (l.drop i))) wv → (∀ r, Ev (fun k => (if l[i + 1] = 34 then frisketref04_Plain.j2 k (B l) (i : Int) true else if a.2.2.2.2 = true then frisketref04_Plain.j2 k (B l) (i : Int) true else frisketref04_Plain.j2 k (B l) (i : Int) (decide (wv.2 > 0)))) r → Ev (fun k => frisketref04_Plain.l0 k (B l) (i : Int)) r) := by
            intro wv hwv r hr'
            refine Ev.goes (g := fun k => frisketref04_Plain.j1 k (B l) (i : Int) false) ?_ hj
            refine Ev.bindStep (F := fun k bt121 => ((frisketref04_At.f k (B (l.drop i))).bind fun bt123 => (if 0 ≤ (wrap64 ((i : Int) + 1)) then (if (wrap64 ((i : Int) + 1)) < ((B l).size : Int) then (if (bt (B l) (wrap64 ((i : Int) + 1))) = 34 then (frisketref04_Plain.j2 k (B l) (i : Int) true) else (if bt123.2.2.2.2 = true then (frisketref04_Plain.j2 k (B l) (i : Int) true) else (frisketref04_Plain.j2 k (B l) (i : Int) (decide (bt121.2 > 0))))) else (none)) else (none)))) hwv (fun k => ?_) ?_
            · rw [frisketref04_Plain.j1, if_neg Bool.false_ne_true, if_pos (by omega), if_pos (by rw [size_B]; omega), Int.toNat_natCast, drop_B]
            · refine Ev.bindNow ha (fun k => rfl) ?_
              refine Ev.congr (fun k => ?_) hr'
              rw [w64s hlt (by omega), if_pos (by omega), if_pos (by rw [size_B]; omega), bt_B l _ hlt2]
              by_cases h34 : l[i + 1] = 34
              · rw [if_pos ((eqn _ 34 34 rfl).2 h34), if_pos h34]
              · rw [if_neg (fun h => h34 ((eqn _ 34 34 rfl).1 h)), if_neg h34]
          by_cases h34 : l[i + 1] = 34
          · rw [if_pos (.inr (.inr h34))]
            refine key _ hw _ (Ev.congr (fun k => ?_) hj2t)
            rw [if_pos h34]
          · cases hq : askS (l.drop i) with
            | some q =>
              rw [if_pos (.inl rfl)]
              rw [hq] at hr
              have hr' : a = ((q.1.toNat : Int), B q.2.2.1, q.2.1, (q.2.2.2 : Int), true) := hr
              refine key _ hw _ (Ev.congr (fun k => ?_) hj2t)
              rw [if_neg h34, if_pos (by rw [hr'])]
            | none =>
              rw [hq] at hr
              have hr' : a.2.2.2.2 = false := hr
              cases hww : widthS (l.drop i) with
              | some w =>
                rw [if_pos (.inr (.inl rfl))]
                rw [hww] at hw
                have := widthS_some hww
                refine key _ hw _ (Ev.congr (fun k => ?_) hj2t)
                rw [if_neg h34, hr', if_neg Bool.false_ne_true, decide_eq_true (show ((w.2 : Nat) : Int) > 0 by omega)]
              | none =>
                rw [hww] at hw
                rw [if_neg (show ¬ ((none : Option (UInt8 × Int × List UInt8 × Nat)).isSome = true ∨ (none : Option (List UInt8 × Nat)).isSome = true ∨ l[i + 1] = 34) from fun h => h.elim (fun h => by cases h) (fun h => h.elim (fun h => by cases h) h34))]
                refine key _ hw _ (Ev.congr (f := fun k => frisketref04_Plain.j2 k (B l) (i : Int) false) (fun k => ?_) ?_)
                · rw [if_neg h34, hr', if_neg Bool.false_ne_true]
                  rfl
                · have e2 : wrap64 (((i + 1 : Nat) : Int) + 1) = ((i + 2 : Nat) : Int) := w64s hlt2 (by omega)
                  have hcase : ∀ k, frisketref04_Plain.j2 (k + 1) (B l) (i : Int) false = if setc l[i + 1] = true then frisketref04_Plain.l0 k (B l) ((i + 1 : Nat) : Int) else frisketref04_Plain.l0 k (B l) ((i + 2 : Nat) : Int) := by
                    intro k
                    rw [frisketref04_Plain.j2, if_neg Bool.false_ne_true, w64s hlt (by omega), if_pos (by omega), if_pos (by rw [size_B]; omega), bt_B l _ hlt2, e2]
                    by_cases c1 : l[i + 1] = 110
                    · rw [if_pos ((eqn _ 110 110 rfl).2 c1), if_pos ((setc_iff _).2 (.inl c1))]
                    · rw [if_neg (fun h => c1 ((eqn _ 110 110 rfl).1 h))]
                      by_cases c2 : l[i + 1] = 42
                      · rw [if_pos ((eqn _ 42 42 rfl).2 c2), if_pos ((setc_iff _).2 (.inr (.inl c2)))]
                      · rw [if_neg (fun h => c2 ((eqn _ 42 42 rfl).1 h))]
                        by_cases c3 : l[i + 1] = 36
                        · rw [if_pos ((eqn _ 36 36 rfl).2 c3), if_pos ((setc_iff _).2 (.inr (.inr (.inl c3))))]
                        · rw [if_neg (fun h => c3 ((eqn _ 36 36 rfl).1 h))]
                          by_cases c4 : l[i + 1] = 119
                          · rw [if_pos ((eqn _ 119 119 rfl).2 c4), if_pos ((setc_iff _).2 (.inr (.inr (.inr c4))))]
                          · rw [if_neg (fun h => c4 ((eqn _ 119 119 rfl).1 h)), if_neg (fun h => by rcases (setc_iff _).1 h with h | h | h | h <;> contradiction)]
                  by_cases hc : setc l[i + 1] = true
                  · rw [if_pos hc]
                    exact Ev.goes h1 (fun k => by rw [hcase, if_pos hc])
                  · rw [if_neg hc]
                    exact Ev.goes h2 (fun k => by rw [hcase, if_neg hc])
      · rw [if_pos (.inl h92)]
        refine Ev.goes hskip (fun k => ?_)
        rw [frisketref04_Plain.l0, if_pos (by rw [size_B]; omega), if_pos (by omega), bt_B l i hlt, if_neg (fun h => h92 ((eqn _ 92 92 rfl).1 h))]
    · have e : l.drop i = [] := List.drop_of_length_le (by omega)
      rw [if_pos e]
      refine Ev.done (fun k => ?_)
      rw [frisketref04_Plain.l0, if_neg (by rw [size_B]; omega)]
theorem rplain_f (l : List UInt8) (hn : l.length ≤ 1000000) : Ev (fun k => frisketref04_Plain.f k (B l)) (plainL (l.length + 1) l) := by
  have h := rplain_l l hn (l.length + 1) 0 (by omega) (by omega)
  exact h
end Go.Proofs.YtifpjidkfemkfaaDoor.Pure
