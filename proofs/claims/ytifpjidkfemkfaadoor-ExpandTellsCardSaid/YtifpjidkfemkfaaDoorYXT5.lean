/- Layer 4 (expand), the plain law: the names that stand in a text, of both sides. -/
import Derived.Test.YtifpjidkfemkfaaDoorYXT4
import Derived.Test.YtifpjidkfemkfaaDoorYa0
import Derived.Test.YtifpjidkfemkfaaDoorYb0
import Derived.Test.YtifpjidkfemkfaaDoorYb6
set_option linter.unusedVariables false
set_option linter.unusedSimpArgs false
namespace Go.Proofs.YtifpjidkfemkfaaDoor.Pure
open Go.RowKit Go.Proofs.YtifpjidkfemkfaaDoor Go.Proofs.YtifpjidkfemkfaaDoor.Xb Go.Proofs.YtifpjidkfemkfaaDoorW.PrintWords Go.Proofs.YtifpjidkfemkfaaDoorW.PrintLast Go.Proofs.YtifpjidkfemkfaaDoorW.PrintMore
/-- The names of a text: for each escape its kind, a colon, its name. -/
def namesL : Nat → List UInt8 → List (List UInt8)
  | 0, _ => []
  | f + 1, l => if l = [] then [] else if l.getD 0 0 ≠ 92 ∨ l.length = 1 then namesL f (l.drop 1)
    else if l.getD 1 0 = 34 then [] else
    match askS l with
    | some x => (x.1 :: 58 :: x.2.2.1) :: namesL f (l.drop x.2.2.2)
    | none => match widthS l with
      | some w => namesL f w.1 ++ namesL f (l.drop w.2)
      | none => if setc (l.getD 1 0) = true then namesL f (l.drop 1) else namesL f (l.drop 2)
theorem namesL_fuel : ∀ (f g : Nat) (l : List UInt8), l.length < f → l.length < g → namesL f l = namesL g l
  | 0, _, l, h, _ => by omega
  | _, 0, l, _, h => by omega
  | f + 1, g + 1, l, h1, h2 => by
    rw [namesL, namesL]
    by_cases h0 : l = []
    · rw [if_pos h0, if_pos h0]
    · have hl : 0 < l.length := by cases l with | nil => exact absurd rfl h0 | cons a b => simp
      have e1 := namesL_fuel f g (l.drop 1) (by rw [List.length_drop]; omega) (by rw [List.length_drop]; omega)
      have e2 := namesL_fuel f g (l.drop 2) (by rw [List.length_drop]; omega) (by rw [List.length_drop]; omega)
      rw [e1, e2]
      cases hq : askS l with
      | some q =>
        have := askS_some hq
        have e3 := namesL_fuel f g (l.drop q.2.2.2) (by rw [List.length_drop]; omega) (by rw [List.length_drop]; omega)
        simp only
        rw [e3]
      | none =>
        cases hw : widthS l with
        | some w =>
          have := widthS_some hw
          have e3 := namesL_fuel f g w.1 (by omega) (by omega)
          have e4 := namesL_fuel f g (l.drop w.2) (by rw [List.length_drop]; omega) (by rw [List.length_drop]; omega)
          simp only
          rw [e3, e4]
        | none => rfl
theorem names_skip : ∀ (u w : List UInt8) (f : Nat), 92 ∉ u → namesL (f + u.length) (u ++ w) = namesL f w
  | [], w, f, _ => rfl
  | b :: u, w, f, h => by
    have hb : b ≠ 92 := fun e => h (by rw [e]; simp)
    have hu : 92 ∉ u := fun e => h (List.mem_cons_of_mem _ e)
    rw [List.length_cons, ← Nat.add_assoc, List.cons_append, namesL, if_neg (by simp), if_pos (.inl (by simpa using hb))]
    exact names_skip u w f hu
theorem namesL_len : ∀ (f : Nat) (l : List UInt8), (namesL f l).length ≤ l.length
  | 0, l => by simp [namesL]
  | f + 1, l => by
    rw [namesL]
    have e1 := namesL_len f (l.drop 1)
    have e2 := namesL_len f (l.drop 2)
    rw [List.length_drop] at e1 e2
    split
    · simp
    · split
      · omega
      · split
        · simp
        · cases hq : askS l with
          | some q =>
            have := askS_some hq
            have e3 := namesL_len f (l.drop q.2.2.2)
            rw [List.length_drop] at e3
            simp only [List.length_cons]
            omega
          | none =>
            cases hw : widthS l with
            | some w =>
              have := widthS_some hw
              have h4 := widthS_len hw
              have e3 := namesL_len f w.1
              have e4 := namesL_len f (l.drop w.2)
              rw [List.length_drop] at e4
              simp only [List.length_append]
              omega
            | none =>
              simp only
              split
              · omega
              · omega
theorem txt_B (k : UInt8) (w : List UInt8) : txtOf (k.toNat : Int) (B w) = B (k :: 58 :: w) := by
  unfold txtOf
  rw [Int.toNat_natCast, show k.toNat.toUInt8 = k by simp, show (⟨#[k]⟩ : ByteArray) = B [k] from rfl, show (⟨#[58]⟩ : ByteArray) = B [58] from rfl, append_B, append_B]
  rfl
theorem pnames (K : Nat) (hK : ∀ w : List UInt8, w.length < K → w.length ≤ 1000000 → namesG K (B w) = some ((namesL (w.length + 1) w).map B)) :
    ∀ (n : Nat) (l : List UInt8), l.length ≤ n → n ≤ 1000000 → l.length ≤ K → ∀ (x : List (List UInt8)), x.length + l.length ≤ 1000000 → ∀ k, l.length < k →
      ∃ c, walkF (stN fun t => namesG K t) k (B l) (x.map B) = some (c, (x ++ namesL (l.length + 1) l).map B) := by
  intro n
  induction n with
  | zero =>
    intro l hl _ _ x _ k hk
    obtain ⟨k, rfl⟩ : ∃ m, k = m + 1 := ⟨k - 1, by omega⟩
    have h0 : l = [] := List.eq_nil_of_length_eq_zero (by omega)
    subst h0
    exact ⟨false, by rw [walk_none _ _ _ _ (by simp)]; simp [namesL]⟩
  | succ n ih =>
    intro l hl hn hlK x hx k hk
    obtain ⟨k, rfl⟩ : ∃ m, k = m + 1 := ⟨k - 1, by omega⟩
    rcases idx_split l 92 with ⟨hm, _⟩ | ⟨u, v, rfl, hu, _⟩
    · refine ⟨false, ?_⟩
      have := names_skip l [] 1 hm
      rw [List.append_nil, Nat.add_comm] at this
      rw [walk_none _ _ _ _ hm, this]
      simp [namesL]
    · rw [walk_some _ _ _ _ (by omega) _ hu]
      have hlen : (u ++ 92 :: v).length + 1 = (92 :: v).length + 1 + u.length := by simp; omega
      rw [hlen, names_skip u (92 :: v) _ hu]
      have hvl : (92 :: v).length ≤ n + 1 := by simp at hl ⊢; omega
      have hvk : (92 :: v).length ≤ k := by simp at hk ⊢; omega
      have hvK : (92 :: v).length ≤ K := by simp at hlK ⊢; omega
      have hvx : x.length + (92 :: v).length ≤ 1000000 := by simp at hx ⊢; omega
      generalize hs : (92 :: v) = s at *
      have h0 : s ≠ [] := by rw [← hs]; simp
      have h92 : s.getD 0 0 = 92 := by rw [← hs]; rfl
      have hpos : 0 < s.length := by rw [← hs]; simp
      rw [stepF, namesL, if_neg h0]
      by_cases h1 : s.length = 1
      · obtain ⟨e1, e2⟩ := short1 (s := s) (by omega)
        rw [e1, e2, if_pos (show s.getD 0 0 ≠ 92 ∨ s.length = 1 from .inr h1)]
        have : s.drop 1 = [] := List.drop_of_length_le (by omega)
        rw [this, h1]
        exact ⟨false, by simp [namesL]⟩
      · rw [if_neg (show ¬ (s.getD 0 0 ≠ 92 ∨ s.length = 1) from fun h => h.elim (fun h => h h92) h1)]
        by_cases h34 : s.getD 1 0 = 34
        · obtain ⟨e1, e2⟩ := no34 h34
          rw [e1, e2, if_pos h34]
          exact ⟨true, by simp only; rw [if_neg h1, if_pos h34, List.append_nil]⟩
        · rw [if_neg h34, if_neg h34]
          cases hq : askS s with
          | some q =>
            have hz := askS_some hq
            obtain ⟨kd, sp, nm, m⟩ := q
            simp only at hz ⊢
            have hst : stN (fun t => namesG K t) (x.map B) (kd.toNat : Int) (B nm) (B []) = some ((x ++ [kd :: 58 :: nm]).map B, true) := by
              unfold stN
              have hk3 : (kd.toNat : Int) = 110 ∨ (kd.toNat : Int) = 42 ∨ (kd.toNat : Int) = 36 := by
                rcases hz.1 with h | h | h <;> rw [h]
                · exact .inl rfl
                · exact .inr (.inl rfl)
                · exact .inr (.inr rfl)
              rw [if_neg (by omega), if_pos ⟨hk3, by rw [size_B]; omega, by rw [List.length_map]; omega⟩, txt_B, List.map_append]
              rfl
            rw [hst, Option.bind_some, if_pos rfl]
            obtain ⟨c, h2⟩ := ih (s.drop m) (by rw [List.length_drop]; omega) (by omega) (by rw [List.length_drop]; omega) (x ++ [kd :: 58 :: nm]) (by rw [List.length_drop, List.length_append, List.length_singleton]; omega) k (by rw [List.length_drop]; omega)
            refine ⟨c, ?_⟩
            rw [h2, List.append_assoc, namesL_fuel _ s.length _ (by omega) (by rw [List.length_drop]; omega)]
            rfl
          | none =>
            cases hw : widthS s with
            | some w =>
              have hz := widthS_some hw
              obtain ⟨tx, m⟩ := w
              simp only at hz ⊢
              have hnl := namesL_len (tx.length + 1) tx
              have hwl := widthS_len hw
              simp only at hwl
              have hst : stN (fun t => namesG K t) (x.map B) 119 (B []) (B tx) = some ((x ++ namesL (tx.length + 1) tx).map B, true) := by
                unfold stN
                rw [if_pos rfl, show (fun t => namesG K t) (B tx) = some ((namesL (tx.length + 1) tx).map B) from hK tx (by omega) (by omega), Option.bind_some, if_pos (by rw [List.length_map, List.length_map]; omega), List.map_append]
              rw [hst, Option.bind_some, if_pos rfl]
              obtain ⟨c, h2⟩ := ih (s.drop m) (by rw [List.length_drop]; omega) (by omega) (by rw [List.length_drop]; omega) (x ++ namesL (tx.length + 1) tx) (by rw [List.length_drop, List.length_append]; omega) k (by rw [List.length_drop]; omega)
              refine ⟨c, ?_⟩
              rw [h2, List.append_assoc, namesL_fuel _ s.length (s.drop m) (by omega) (by rw [List.length_drop]; omega), namesL_fuel _ s.length tx (by omega) (by omega)]
            | none =>
              simp only
              rw [if_neg h1]
              by_cases hc : setc (s.getD 1 0) = true
              · rw [if_pos hc, if_pos hc]
                obtain ⟨c, h2⟩ := ih (s.drop 1) (by rw [List.length_drop]; omega) (by omega) (by rw [List.length_drop]; omega) x (by rw [List.length_drop]; omega) k (by rw [List.length_drop]; omega)
                exact ⟨c, by rw [h2, namesL_fuel _ s.length _ (by omega) (by rw [List.length_drop]; omega)]⟩
              · rw [if_neg hc, if_neg hc]
                obtain ⟨c, h2⟩ := ih (s.drop 2) (by rw [List.length_drop]; omega) (by omega) (by rw [List.length_drop]; omega) x (by rw [List.length_drop]; omega) k (by rw [List.length_drop]; omega)
                exact ⟨c, by rw [h2, namesL_fuel _ s.length _ (by omega) (by rw [List.length_drop]; omega)]⟩
theorem namesG_f : ∀ (K : Nat) (l : List UInt8), l.length < K → l.length ≤ 1000000 → namesG K (B l) = some ((namesL (l.length + 1) l).map B)
  | 0, l, h, _ => by omega
  | K + 1, l, h, hn => by
    obtain ⟨c, h2⟩ := pnames K (fun w h1 h2 => namesG_f K w h1 h2) l.length l (Nat.le_refl _) hn (by omega) [] (by simpa using hn) (l.length + 1) (by omega)
    rw [namesG, size_B]
    simp only [List.map_nil, List.nil_append] at h2
    rw [h2]
    rfl
theorem names_f (l : List UInt8) (hn : l.length ≤ 1000000) : namesF (B l) = some ((namesL (l.length + 1) l).map B) := by
  unfold namesF
  rw [size_B]
  exact namesG_f _ l (by omega) hn
theorem nums_k (k : UInt8) : strOfNums [(k.toNat : Int)] = B [k] := by
  simp [strOfNums, B]
theorem rnames_l (l : List UInt8) (hn : l.length ≤ 1000000) (hF : ∀ w : List UInt8, w.length < l.length → Ev (fun k => frisketref04_Names.f k (B w)) ((namesL (w.length + 1) w).map B)) :
    ∀ (f i : Nat) (x : List (List UInt8)), i ≤ l.length → l.length - i < f → x.length + (l.length - i) ≤ 1000000 → Ev (fun k => frisketref04_Names.l0 k (B l) (x.map B) (i : Int)) ((x ++ namesL f (l.drop i)).map B)
  | 0, i, x, _, h, _ => by omega
  | f + 1, i, x, hi, hf, hx => by
    rw [namesL]
    by_cases hlt : i < l.length
    · have hne : l.drop i ≠ [] := by intro h; have := congrArg List.length h; rw [List.length_drop] at this; simp at this; omega
      have hg0 : (l.drop i).getD 0 0 = l[i] := by rw [List.getD_eq_getElem?_getD, List.getElem?_drop, Nat.add_zero, List.getElem?_eq_getElem hlt]; rfl
      have hd1 : (l.drop i).drop 1 = l.drop (i + 1) := by rw [List.drop_drop]
      have hd2 : (l.drop i).drop 2 = l.drop (i + 2) := by rw [List.drop_drop]
      have hl : (l.drop i).length = l.length - i := List.length_drop
      rw [if_neg hne, hg0, hd1, hd2, hl]
      have h1 := rnames_l l hn hF f (i + 1) x (by omega) (by omega) (by omega)
      have hskip : Ev (fun k => frisketref04_Names.j1 k (B l) (x.map B) (i : Int) true) ((x ++ namesL f (l.drop (i + 1))).map B) := Ev.goes h1 fun k => by rw [frisketref04_Names.j1, if_pos rfl, w64s hlt (by omega)]
      by_cases h92 : l[i] = 92
      · by_cases hl1 : l.length - i = 1
        · rw [if_pos (show l[i] ≠ 92 ∨ l.length - i = 1 from .inr hl1)]
          refine Ev.goes hskip (fun k => ?_)
          rw [frisketref04_Names.l0, if_pos (by rw [size_B]; omega), if_pos (by omega), bt_B l i hlt, if_pos ((eqn _ 92 92 rfl).2 h92), w64s hlt (by omega), beq_iff_eq.2 (show (((i + 1 : Nat) : Int)) = ((B l).size : Int) by rw [size_B]; omega)]
        · have hlt2 : i + 1 < l.length := by omega
          have hg1 : (l.drop i).getD 1 0 = l[i + 1] := by rw [List.getD_eq_getElem?_getD, List.getElem?_drop, List.getElem?_eq_getElem hlt2]; rfl
          rw [if_neg (show ¬ (l[i] ≠ 92 ∨ l.length - i = 1) from fun h => h.elim (fun h => h h92) hl1), hg1]
          refine Ev.goes (g := fun k => frisketref04_Names.j1 k (B l) (x.map B) (i : Int) false) ?_ (fun k => by
            rw [frisketref04_Names.l0, if_pos (by rw [size_B]; omega), if_pos (by omega), bt_B l i hlt, if_pos ((eqn _ 92 92 rfl).2 h92), w64s hlt (by omega), beq_eq_false_iff_ne.2 (show ¬ (((i + 1 : Nat) : Int)) = ((B l).size : Int) by rw [size_B]; omega)])
          by_cases h34 : l[i + 1] = 34
          · rw [if_pos h34, List.append_nil]
            refine Ev.done (fun k => ?_)
            rw [frisketref04_Names.j1, if_neg Bool.false_ne_true, w64s hlt (by omega), if_pos (by omega), if_pos (by rw [size_B]; omega), bt_B l _ hlt2, if_pos ((eqn _ 34 34 rfl).2 h34)]
          · rw [if_neg h34]
            obtain ⟨a, ha, hr⟩ := at_f (l.drop i) (by omega)
            have hw := rwidth_f (l.drop i) (by omega)
            refine Ev.bindStep (F := ?_) ha (fun k => ?_) ?_
            rotate_left 1
            · rw [frisketref04_Names.j1, if_neg Bool.false_ne_true, w64s hlt (by omega), if_pos (by omega), if_pos (by rw [size_B]; omega), bt_B l _ hlt2, if_neg (fun h => h34 ((eqn _ 34 34 rfl).1 h)), if_pos (by omega), if_pos (by rw [size_B]; omega), Int.toNat_natCast, drop_B]
            cases hq : askS (l.drop i) with
            | some q =>
              rw [hq] at hr
              have hz := askS_some hq
              obtain ⟨kd, sp, nm, m⟩ := q
              have hr' : a = ((kd.toNat : Int), B nm, sp, (m : Int), true) := hr
              subst hr'
              simp only at hz ⊢
              have h2 := rnames_l l hn hF f (i + m) (x ++ [kd :: 58 :: nm]) (by omega) (by omega) (by rw [List.length_append, List.length_singleton]; omega)
              rw [List.drop_drop]
              have e5 : wrap64 (wrap64 (wrap64 ((i : Int) + (m : Int)) - 1) + 1) = ((i + m : Nat) : Int) := by
                rw [w64 (x := (i : Int) + (m : Int)) (by omega) (by omega), w64 (x := (i : Int) + (m : Int) - 1) (by omega) (by omega), w64 (by omega) (by omega)]; omega
              rw [List.append_assoc] at h2
              refine Ev.congr (fun k => ?_) h2
              rw [if_pos trivial, Option.bind_some, nums_k, show (⟨#[58]⟩ : ByteArray) = B [58] from rfl, append_B, append_B, size_B, size_B, size_B, List.length_map, e5, if_pos (by simp), if_pos (by simp; omega), if_pos (by omega), List.map_append]
              rfl
            | none =>
              rw [hq] at hr
              have hr' : a.2.2.2.2 = false := hr
              refine Ev.bindNow (F := ?_) hw (fun k => ?_) ?_
              rotate_left 1
              · rw [hr', if_neg Bool.false_ne_true]
              cases hww : widthS (l.drop i) with
              | some w =>
                have hz := widthS_some hww
                have hwl := widthS_len hww
                obtain ⟨tx, m⟩ := w
                simp only at hz hwl ⊢
                have hnl := namesL_len (tx.length + 1) tx
                have h2 := rnames_l l hn hF f (i + m) (x ++ namesL (tx.length + 1) tx) (by omega) (by omega) (by rw [List.length_append]; omega)
                have e5 : wrap64 (wrap64 (wrap64 ((i : Int) + (m : Int)) - 1) + 1) = ((i + m : Nat) : Int) := by
                  rw [w64 (x := (i : Int) + (m : Int)) (by omega) (by omega), w64 (x := (i : Int) + (m : Int) - 1) (by omega) (by omega), w64 (by omega) (by omega)]; omega
                rw [List.drop_drop, namesL_fuel f (tx.length + 1) tx (by omega) (by omega)]
                rw [List.append_assoc] at h2
                refine Ev.bindNow (F := ?_) (hF tx (by omega)) (fun k => ?_) ?_
                rotate_left 1
                · rw [if_pos (by omega)]
                refine Ev.congr (fun k => ?_) h2
                rw [List.length_map, List.length_map, if_pos (by omega), e5, List.map_append]
              | none =>
                simp only
                have e2 : wrap64 (((i + 1 : Nat) : Int) + 1) = ((i + 2 : Nat) : Int) := w64s hlt2 (by omega)
                have h2 := rnames_l l hn hF f (i + 2) x (by omega) (by omega) (by omega)
                by_cases hc : setc l[i + 1] = true
                · rw [if_pos hc]
                  refine Ev.congr (fun k => ?_) h1
                  rw [if_neg (by omega)]
                  rcases (setc_iff _).1 hc with h | h | h | h
                  · rw [if_pos ((eqn _ 110 110 rfl).2 h)]
                  · by_cases c1 : l[i + 1] = 110
                    · rw [if_pos ((eqn _ 110 110 rfl).2 c1)]
                    · rw [if_neg (fun h => c1 ((eqn _ 110 110 rfl).1 h)), if_pos ((eqn _ 42 42 rfl).2 h)]
                  · by_cases c1 : l[i + 1] = 110
                    · rw [if_pos ((eqn _ 110 110 rfl).2 c1)]
                    · rw [if_neg (fun h => c1 ((eqn _ 110 110 rfl).1 h))]
                      by_cases c2 : l[i + 1] = 42
                      · rw [if_pos ((eqn _ 42 42 rfl).2 c2)]
                      · rw [if_neg (fun h => c2 ((eqn _ 42 42 rfl).1 h)), if_pos ((eqn _ 36 36 rfl).2 h)]
                  · by_cases c1 : l[i + 1] = 110
                    · rw [if_pos ((eqn _ 110 110 rfl).2 c1)]
                    · rw [if_neg (fun h => c1 ((eqn _ 110 110 rfl).1 h))]
                      by_cases c2 : l[i + 1] = 42
                      · rw [if_pos ((eqn _ 42 42 rfl).2 c2)]
                      · rw [if_neg (fun h => c2 ((eqn _ 42 42 rfl).1 h))]
                        by_cases c3 : l[i + 1] = 36
                        · rw [if_pos ((eqn _ 36 36 rfl).2 c3)]
                        · rw [if_neg (fun h => c3 ((eqn _ 36 36 rfl).1 h)), if_pos ((eqn _ 119 119 rfl).2 h)]
                · rw [if_neg hc]
                  refine Ev.congr (fun k => ?_) h2
                  rw [if_neg (by omega), if_neg (fun h => hc ((setc_iff _).2 (.inl ((eqn _ 110 110 rfl).1 h)))), if_neg (fun h => hc ((setc_iff _).2 (.inr (.inl ((eqn _ 42 42 rfl).1 h))))), if_neg (fun h => hc ((setc_iff _).2 (.inr (.inr (.inl ((eqn _ 36 36 rfl).1 h)))))), if_neg (fun h => hc ((setc_iff _).2 (.inr (.inr (.inr ((eqn _ 119 119 rfl).1 h)))))), e2]
      · rw [if_pos (show l[i] ≠ 92 ∨ l.length - i = 1 from .inl h92)]
        refine Ev.goes hskip (fun k => ?_)
        rw [frisketref04_Names.l0, if_pos (by rw [size_B]; omega), if_pos (by omega), bt_B l i hlt, if_neg (fun h => h92 ((eqn _ 92 92 rfl).1 h))]
    · have e : l.drop i = [] := List.drop_of_length_le (by omega)
      rw [if_pos e, List.append_nil]
      refine Ev.done (fun k => ?_)
      rw [frisketref04_Names.l0, if_neg (by rw [size_B]; omega)]
theorem rnames_f : ∀ (n : Nat) (l : List UInt8), l.length ≤ n → n ≤ 1000000 → Ev (fun k => frisketref04_Names.f k (B l)) ((namesL (l.length + 1) l).map B) := by
  intro n
  induction n with
  | zero =>
    intro l hl _
    have h := rnames_l l (by omega) (fun w h => by omega) (l.length + 1) 0 [] (by omega) (by omega) (by simp; omega)
    exact Ev.goes h fun k => by rw [frisketref04_Names.f]; rfl
  | succ n ih =>
    intro l hl hn
    have h := rnames_l l (by omega) (fun w hw => ih w (by omega) (by omega)) (l.length + 1) 0 [] (by omega) (by omega) (by simp; omega)
    exact Ev.goes h fun k => by rw [frisketref04_Names.f]; rfl
end Go.Proofs.YtifpjidkfemkfaaDoor.Pure
