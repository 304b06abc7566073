/- Layer 4 (expand), the plain law: the specification's names, escapes and widths. -/
import Derived.Test.YtifpjidkfemkfaaDoorYXT1
import Derived.Test.YtifpjidkfemkfaaDoorYb0
import Derived.Test.YtifpjidkfemkfaaDoorYb2
import Derived.Test.YtifpjidkfemkfaaDoorYb3
set_option linter.unusedVariables false
set_option linter.unusedSimpArgs false
namespace Go.Proofs.YtifpjidkfemkfaaDoor.Pure
open Go.RowKit Go.Proofs.YtifpjidkfemkfaaDoor Go.Proofs.YtifpjidkfemkfaaDoor.Xb Go.Proofs.YtifpjidkfemkfaaDoorW.PrintWords Go.Proofs.YtifpjidkfemkfaaDoorW.PrintLast Go.Proofs.YtifpjidkfemkfaaDoorW.PrintMore
def okn (c : UInt8) : Bool := okc c && c != 93
theorem tw_same : ∀ (t : List UInt8), (t.takeWhile (· != 93)).all okc = true → t.takeWhile okn = t.takeWhile (· != 93)
  | [], _ => rfl
  | b :: t, h => by
    rw [List.takeWhile_cons] at h ⊢
    rw [List.takeWhile_cons]
    by_cases hb : b = 93
    · rw [hb]; rfl
    · have h1 : (b != 93) = true := by simpa using hb
      rw [h1, if_pos rfl, List.all_cons, Bool.and_eq_true] at h
      have h2 : okn b = true := by unfold okn; rw [h.1, h1]; rfl
      rw [h1, h2, if_pos rfl, if_pos rfl, tw_same t h.2]
theorem tw_at : ∀ (t : List UInt8), 93 ∈ t → t[(t.takeWhile (· != 93)).length]? = some 93
  | [], h => by cases h
  | b :: t, h => by
    rw [List.takeWhile_cons]
    by_cases hb : b = 93
    · rw [hb]; rfl
    · have h1 : (b != 93) = true := by simpa using hb
      have h' : 93 ∈ t := by
        rcases List.mem_cons.1 h with h | h
        · exact absurd h.symm hb
        · exact h
      rw [h1, if_pos rfl, List.length_cons, List.getElem?_cons_succ]
      exact tw_at t h'
theorem tw_back : ∀ (t : List UInt8), t[(t.takeWhile okn).length]? = some 93 → 93 ∈ t ∧ (t.takeWhile (· != 93)).all okc = true
  | [], h => by simp at h
  | b :: t, h => by
    rw [List.takeWhile_cons] at h ⊢
    by_cases hk : okn b = true
    · rw [hk, if_pos rfl, List.length_cons, List.getElem?_cons_succ] at h
      obtain ⟨h1, h2⟩ := tw_back t h
      have hk' := hk
      unfold okn at hk'
      rw [Bool.and_eq_true] at hk'
      rw [hk'.2, if_pos rfl, List.all_cons, hk'.1, h2]
      exact ⟨List.mem_cons_of_mem _ h1, rfl⟩
    · rw [Bool.eq_false_iff.2 hk] at h
      simp at h
      rw [h]
      exact ⟨by simp, rfl⟩
theorem okn_alt (t : List UInt8) : (93 ∈ t ∧ 1 ≤ (t.takeWhile (· != 93)).length ∧ (t.takeWhile (· != 93)).length ≤ 20 ∧ (t.takeWhile (· != 93)).all okc = true) ↔ (t[(t.takeWhile okn).length]? = some 93 ∧ 1 ≤ (t.takeWhile okn).length ∧ (t.takeWhile okn).length ≤ 20) := by
  constructor
  · rintro ⟨h1, h2, h3, h4⟩
    rw [tw_same t h4]
    exact ⟨tw_at t h1, h2, h3⟩
  · rintro ⟨h1, h2, h3⟩
    obtain ⟨h4, h5⟩ := tw_back t h1
    rw [tw_same t h5] at h2 h3
    exact ⟨h4, h2, h3, h5⟩
/-- A name as the specification tells it: the place behind it. -/
def nameR (i : Nat) : Option (List UInt8 × Nat) → ByteArray × Int
  | some (w, n) => (B w, ((i + n : Nat) : Int))
  | none => (B [], -1)
theorem name_j2 (l : List UInt8) (hn : l.length ≤ 1048576) (i m : Nat) (hi : i < l.length) (hm : i + 1 + m ≤ l.length) (k : Nat) :
    frisketref04_name.j2 (k + 1 + 1) (B l) (i : Int) ((i + 1 + m : Nat) : Int) = some (nameR i (if l[i + 1 + m]? = some 93 ∧ 1 ≤ m ∧ m ≤ 20 then some ((l.drop (i + 1)).take m, m + 2) else none)) := by
  have e1 : wrap64 ((i : Int) + 1) = ((i + 1 : Nat) : Int) := w64s hi (by omega)
  rw [frisketref04_name.j2]
  by_cases hlt : i + 1 + m < l.length
  · rw [if_neg (by rw [size_B]; omega), if_pos (by omega), if_pos (by rw [size_B]; omega), bt_B l (i + 1 + m) hlt, List.getElem?_eq_getElem hlt, e1]
    by_cases h93 : l[i + 1 + m] = 93
    · rw [if_pos ((eqn _ 93 93 rfl).2 h93)]
      by_cases h0 : m = 0
      · rw [if_pos (by omega), frisketref04_name.j3, if_pos rfl, if_neg (fun h => by omega)]
        rfl
      · rw [if_neg (by omega), w64 (x := ((i + 1 + m : Nat) : Int) - (i : Int)) (by omega) (by omega), w64 (by omega) (by omega)]
        by_cases h20 : m ≤ 20
        · rw [decide_eq_false (by omega), frisketref04_name.j3, if_neg Bool.false_ne_true, e1, if_pos (by omega), if_pos (by omega), if_pos (by rw [size_B]; omega), if_pos ⟨by rw [h93], by omega, h20⟩, extract_B, w64 (by omega) (by omega)]
          simp only [nameR, Option.some.injEq, Prod.mk.injEq]
          refine ⟨?_, by omega⟩
          rw [Int.toNat_natCast, Int.toNat_natCast, show i + 1 + m - (i + 1) = m by omega]
        · rw [decide_eq_true (by omega), frisketref04_name.j3, if_pos rfl, if_neg (fun h => h20 h.2.2)]
          rfl
    · rw [if_neg (fun h => h93 ((eqn _ 93 93 rfl).1 h)), frisketref04_name.j3, if_pos rfl, if_neg (fun h => h93 (by simpa using h.1))]
      rfl
  · rw [if_pos (by rw [size_B]; omega), frisketref04_name.j3, if_pos rfl, if_neg (fun h => by rw [List.getElem?_eq_none (by omega)] at h; exact absurd h.1 (by simp))]
    rfl
theorem name_l0 (l : List UInt8) (hn : l.length ≤ 1048576) (i : Nat) (hi : i < l.length) : ∀ (d m : Nat), i + 1 + m + d = l.length → (l.drop (i + 1)).takeWhile okn = ((l.drop (i + 1)).take m) ++ ((l.drop (i + 1 + m)).takeWhile okn) →
    Ev (fun k => frisketref04_name.l0 k (B l) (i : Int) ((i + 1 + m : Nat) : Int)) (nameR i (if (l.drop (i + 1))[((l.drop (i + 1)).takeWhile okn).length]? = some 93 ∧ 1 ≤ ((l.drop (i + 1)).takeWhile okn).length ∧ ((l.drop (i + 1)).takeWhile okn).length ≤ 20 then some ((l.drop (i + 1)).takeWhile okn, ((l.drop (i + 1)).takeWhile okn).length + 2) else none))
  | 0, m, hd, ht => by
    have e0 : l.drop (i + 1 + m) = [] := List.drop_of_length_le (by omega)
    rw [e0, List.takeWhile_nil, List.append_nil] at ht
    have hl : ((l.drop (i + 1)).take m).length = m := by rw [List.length_take, List.length_drop]; omega
    rw [ht, hl, List.getElem?_drop]
    refine Ev.goes (g := fun k => frisketref04_name.j2 k (B l) (i : Int) ((i + 1 + m : Nat) : Int)) (Ev.done2 fun k => name_j2 l hn i m hi (by omega) k) (fun k => ?_)
    rw [frisketref04_name.l0, if_neg (by rw [size_B]; omega)]
  | d + 1, m, hd, ht => by
    have hlt : i + 1 + m < l.length := by omega
    have hdr : l.drop (i + 1 + m) = l[i + 1 + m] :: l.drop (i + 1 + m + 1) := List.drop_eq_getElem_cons hlt
    have hl : ((l.drop (i + 1)).take m).length = m := by rw [List.length_take, List.length_drop]; omega
    by_cases hk : okn l[i + 1 + m] = true
    · have ht2 : (l.drop (i + 1)).takeWhile okn = ((l.drop (i + 1)).take (m + 1)) ++ ((l.drop (i + 1 + (m + 1))).takeWhile okn) := by
        rw [ht, hdr, List.takeWhile_cons, hk, if_pos rfl, show i + 1 + (m + 1) = i + 1 + m + 1 by omega, List.take_succ_eq_append_getElem (by rw [List.length_drop]; omega)]
        simp
      have ih := name_l0 l hn i hi d (m + 1) (by omega) ht2
      have hk' := hk
      unfold okn at hk'
      rw [Bool.and_eq_true] at hk'
      refine Ev.goes ih (fun k => ?_)
      rw [frisketref04_name.l0, if_pos (by rw [size_B]; omega), if_pos (by omega), bt_B l _ hlt, one_c, Option.bind_some, if_pos hk'.1, if_neg (fun h => by have := (eqn _ 93 93 rfl).1 h; rw [this] at hk'; simp at hk'), w64s hlt (by omega)]
      rfl
    · have ht' : (l.drop (i + 1)).takeWhile okn = (l.drop (i + 1)).take m := by
        rw [ht, hdr, List.takeWhile_cons, Bool.eq_false_iff.2 hk]
        simp
      rw [ht', hl, List.getElem?_drop]
      refine Ev.goes (g := fun k => frisketref04_name.j2 k (B l) (i : Int) ((i + 1 + m : Nat) : Int)) (Ev.done2 fun k => name_j2 l hn i m hi (by omega) k) (fun k => ?_)
      rw [frisketref04_name.l0, if_pos (by rw [size_B]; omega), if_pos (by omega), bt_B l _ hlt, one_c, Option.bind_some]
      by_cases ho : okc l[i + 1 + m] = true
      · rw [if_pos ho, if_pos ((eqn _ 93 93 rfl).2 (by unfold okn at hk; rw [ho] at hk; simpa using hk))]
      · rw [if_neg ho]
theorem rname_f (l : List UInt8) (hn : l.length ≤ 1048576) (i : Nat) (hi : i ≤ l.length) : Ev (fun k => frisketref04_name.f k (B l) (i : Int)) (nameR i (nameS (l.drop i))) := by
  by_cases hlt : i < l.length
  · have hdr : l.drop i = l[i] :: l.drop (i + 1) := List.drop_eq_getElem_cons hlt
    have e1 : wrap64 ((i : Int) + 1) = ((i + 1 : Nat) : Int) := w64s hlt (by omega)
    have e2 : wrap64 ((i : Int) + 2) = ((i + 2 : Nat) : Int) := by rw [w64 (by omega) (by omega)]; omega
    have e3 : wrap64 ((i : Int) + 3) = ((i + 3 : Nat) : Int) := by rw [w64 (by omega) (by omega)]; omega
    rw [hdr, nameS]
    by_cases h40 : l[i] = 40
    · rw [if_pos h40]
      have hf : ∀ k, frisketref04_name.f k (B l) (i : Int) = if ((i + 2 : Nat) : Int) < ((B l).size : Int) then (if 0 ≤ ((i + 1 : Nat) : Int) then (if ((i + 1 : Nat) : Int) < ((B l).size : Int) then ((frisketref04_one.f (bt (B l) ((i + 1 : Nat) : Int))).bind fun t107 => (if t107 = true then (if 0 ≤ ((i + 2 : Nat) : Int) then ((frisketref04_one.f (bt (B l) ((i + 2 : Nat) : Int))).bind fun t108 => (frisketref04_name.j0 k (B l) (i : Int) t108)) else (none)) else (frisketref04_name.j0 k (B l) (i : Int) false))) else (none)) else (none)) else (frisketref04_name.j0 k (B l) (i : Int) false) := by
        intro k
        rw [frisketref04_name.f, if_neg (by rw [size_B]; omega), if_pos (by omega), if_pos (by rw [size_B]; omega), bt_B l i hlt, if_pos ((eqn _ 40 40 rfl).2 h40), e1, e2]
      have hno : Ev (fun k => frisketref04_name.j0 k (B l) (i : Int) false) (nameR i none) := Ev.done fun k => by rw [frisketref04_name.j0, if_neg Bool.false_ne_true]; rfl
      by_cases h2 : i + 2 < l.length
      · have hd1 : l.drop (i + 1) = l[i + 1] :: l[i + 2] :: l.drop (i + 3) := by rw [List.drop_eq_getElem_cons (by omega), List.drop_eq_getElem_cons (by omega)]
        rw [hd1, name2]
        by_cases ha : okc l[i + 1] = true
        · by_cases hb : okc l[i + 2] = true
          · rw [if_pos ⟨ha, hb⟩]
            refine Ev.congr (f := fun k => frisketref04_name.j0 k (B l) (i : Int) true) (fun k => ?_) (Ev.done fun k => ?_)
            · rw [hf, if_pos (by rw [size_B]; omega), if_pos (by omega), if_pos (by rw [size_B]; omega), bt_B l (i + 1) (by omega), one_c, Option.bind_some, if_pos ha, if_pos (by omega), bt_B l (i + 2) h2, one_c, Option.bind_some, hb]
            · rw [frisketref04_name.j0, if_pos rfl, e1, e3, if_pos (by omega), if_pos (by omega), if_pos (by rw [size_B]; omega), extract_B]
              simp only [nameR, Option.some.injEq, Prod.mk.injEq]
              refine ⟨?_, trivial⟩
              rw [Int.toNat_natCast, Int.toNat_natCast, show i + 3 - (i + 1) = 2 by omega, hd1]
              rfl
          · rw [if_neg (fun h => hb h.2)]
            refine Ev.congr (f := fun k => frisketref04_name.j0 k (B l) (i : Int) false) (fun k => ?_) hno
            rw [hf, if_pos (by rw [size_B]; omega), if_pos (by omega), if_pos (by rw [size_B]; omega), bt_B l (i + 1) (by omega), one_c, Option.bind_some, if_pos ha, if_pos (by omega), bt_B l (i + 2) h2, one_c, Option.bind_some, Bool.eq_false_iff.2 hb]
        · rw [if_neg (fun h => ha h.1)]
          refine Ev.congr (f := fun k => frisketref04_name.j0 k (B l) (i : Int) false) (fun k => ?_) hno
          rw [hf, if_pos (by rw [size_B]; omega), if_pos (by omega), if_pos (by rw [size_B]; omega), bt_B l (i + 1) (by omega), one_c, Option.bind_some, if_neg ha]
      · have hz : name2 (l.drop (i + 1)) = none := by
          have : (l.drop (i + 1)).length ≤ 1 := by rw [List.length_drop]; omega
          match h : l.drop (i + 1) with
          | [] => rfl
          | [a] => rfl
          | a :: b :: t => rw [h] at this; simp at this
        rw [hz]
        refine Ev.congr (f := fun k => frisketref04_name.j0 k (B l) (i : Int) false) (fun k => ?_) hno
        rw [hf, if_neg (by rw [size_B]; omega)]
    · rw [if_neg h40]
      have n40 := fun h => h40 ((eqn _ 40 40 rfl).1 h)
      by_cases h91 : l[i] = 91
      · rw [if_pos h91]
        have h := name_l0 l hn i hlt (l.length - (i + 1)) 0 (by omega) (by simp)
        have e : (if (93 ∈ (l.drop (i + 1)) ∧ 1 ≤ ((l.drop (i + 1)).takeWhile (· != 93)).length ∧ ((l.drop (i + 1)).takeWhile (· != 93)).length ≤ 20 ∧ ((l.drop (i + 1)).takeWhile (· != 93)).all okc = true) then some ((l.drop (i + 1)).takeWhile (· != 93), ((l.drop (i + 1)).takeWhile (· != 93)).length + 2) else none)
            = (if (l.drop (i + 1))[((l.drop (i + 1)).takeWhile okn).length]? = some 93 ∧ 1 ≤ ((l.drop (i + 1)).takeWhile okn).length ∧ ((l.drop (i + 1)).takeWhile okn).length ≤ 20 then some ((l.drop (i + 1)).takeWhile okn, ((l.drop (i + 1)).takeWhile okn).length + 2) else none) := by
          by_cases hc : (93 ∈ (l.drop (i + 1)) ∧ 1 ≤ ((l.drop (i + 1)).takeWhile (· != 93)).length ∧ ((l.drop (i + 1)).takeWhile (· != 93)).length ≤ 20 ∧ ((l.drop (i + 1)).takeWhile (· != 93)).all okc = true)
          · rw [if_pos hc, if_pos ((okn_alt _).1 hc), tw_same _ hc.2.2.2]
          · rw [if_neg hc, if_neg (fun h => hc ((okn_alt _).2 h))]
        rw [e]
        refine Ev.congr (fun k => ?_) h
        rw [frisketref04_name.f, if_neg (by rw [size_B]; omega), if_pos (by omega), if_pos (by rw [size_B]; omega), bt_B l i hlt, if_neg n40, if_pos ((eqn _ 91 91 rfl).2 h91), e1]
      · rw [if_neg h91]
        have n91 := fun h => h91 ((eqn _ 91 91 rfl).1 h)
        have hno : Ev (fun k => frisketref04_name.j4 k (B l) (i : Int) true) (nameR i none) := Ev.done fun k => by rw [frisketref04_name.j4, if_pos rfl]; rfl
        by_cases h43 : l[i] = 43
        · rw [if_pos (.inl h43)]
          refine Ev.congr (fun k => ?_) hno
          rw [frisketref04_name.f, if_neg (by rw [size_B]; omega), if_pos (by omega), if_pos (by rw [size_B]; omega), bt_B l i hlt, if_neg n40, if_neg n91, if_pos ((eqn _ 43 43 rfl).2 h43), beq_iff_eq.2 ((eqn _ 43 43 rfl).2 h43)]
        · have n43 := fun h => h43 ((eqn _ 43 43 rfl).1 h)
          by_cases h45 : l[i] = 45
          · rw [if_pos (.inr h45)]
            refine Ev.congr (fun k => ?_) hno
            rw [frisketref04_name.f, if_neg (by rw [size_B]; omega), if_pos (by omega), if_pos (by rw [size_B]; omega), bt_B l i hlt, if_neg n40, if_neg n91, if_neg n43, beq_iff_eq.2 ((eqn _ 45 45 rfl).2 h45)]
          · have n45 := fun h => h45 ((eqn _ 45 45 rfl).1 h)
            rw [if_neg (show ¬ (l[i] = 43 ∨ l[i] = 45) from fun h => h.elim h43 h45)]
            refine Ev.congr (f := fun k => frisketref04_name.j4 k (B l) (i : Int) false) (fun k => ?_) (Ev.done fun k => ?_)
            · rw [frisketref04_name.f, if_neg (by rw [size_B]; omega), if_pos (by omega), if_pos (by rw [size_B]; omega), bt_B l i hlt, if_neg n40, if_neg n91, if_neg n43, beq_eq_false_iff_ne.2 n45]
            · rw [frisketref04_name.j4, if_neg Bool.false_ne_true, if_pos (by omega), if_pos (by rw [size_B]; omega), bt_B l i hlt, one_c, Option.bind_some]
              by_cases hk : okc l[i] = true
              · rw [if_pos hk, if_pos hk, e1, if_pos (by omega), if_pos (by rw [size_B]; omega), take1 l i hlt]
                rfl
              · rw [if_neg hk, if_neg hk]
                rfl
  · have e : l.drop i = [] := List.drop_of_length_le (by omega)
    rw [e]
    refine Ev.congr (f := fun _ => some (nameR i none)) (fun k => ?_) (Ev.now _)
    rw [frisketref04_name.f, if_pos (by rw [size_B]; omega)]
    rfl
end Go.Proofs.YtifpjidkfemkfaaDoor.Pure
