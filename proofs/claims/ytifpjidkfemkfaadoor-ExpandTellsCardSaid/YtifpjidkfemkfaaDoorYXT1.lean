/- Layer 4 (expand), the plain law: names and escapes at a text's front, of both sides. -/
import Derived.Test.YtifpjidkfemkfaaDoorYXRepl
import Derived.Test.YtifpjidkfemkfaaDoorYXNames
import Derived.Test.YtifpjidkfemkfaaDoorYa0
import Derived.Test.YtifpjidkfemkfaaDoorYb0
import Derived.Test.YtifpjidkfemkfaaDoorYb2
set_option linter.unusedVariables false
set_option linter.unusedSimpArgs false
namespace Go.Proofs.YtifpjidkfemkfaaDoor.Pure
open Go.RowKit Go.Proofs.YtifpjidkfemkfaaDoor Go.Proofs.YtifpjidkfemkfaaDoor.Xb Go.Proofs.YtifpjidkfemkfaaDoorW.PrintWords Go.Proofs.YtifpjidkfemkfaaDoorW.PrintLast Go.Proofs.YtifpjidkfemkfaaDoorW.PrintMore
/-- May a byte stand in a name? -/
def okc (c : UInt8) : Bool := decide (33 ≤ c.toNat ∧ c.toNat ≤ 126)
theorem plain_c (c : UInt8) : Xa.expand_plain.f (c.toNat : Int) = some (okc c) := by
  unfold Xa.expand_plain.f okc
  by_cases h : 33 ≤ c.toNat
  · rw [if_pos (by omega)]; simp [h]; omega
  · rw [if_neg (by omega)]; simp; omega
theorem one_c (c : UInt8) : frisketref04_one.f (c.toNat : Int) = some (okc c) := plain_c c
theorem out_ok (l : List UInt8) : l.any outB = !l.all okc := by
  induction l with
  | nil => rfl
  | cons b l ih =>
    rw [List.any_cons, List.all_cons, ih, Bool.not_and]
    congr 1
    unfold outB okc
    rw [Bool.eq_iff_iff]
    simp
def name2 : List UInt8 → Option (List UInt8 × Nat)
  | a :: b :: _ => if okc a = true ∧ okc b = true then some ([a, b], 3) else none
  | _ => none
/-- The name at a text's front, and how many bytes it takes. -/
def nameS : List UInt8 → Option (List UInt8 × Nat)
  | [] => none
  | c :: t =>
    if c = 40 then name2 t
    else if c = 91 then
      (if 93 ∈ t ∧ 1 ≤ (t.takeWhile (· != 93)).length ∧ (t.takeWhile (· != 93)).length ≤ 20 ∧ (t.takeWhile (· != 93)).all okc = true then some (t.takeWhile (· != 93), (t.takeWhile (· != 93)).length + 2) else none)
    else if c = 43 ∨ c = 45 then none
    else if okc c = true then some ([c], 1) else none
theorem tw_lt : ∀ {t : List UInt8}, 93 ∈ t → (t.takeWhile (· != 93)).length < t.length
  | [], h => by cases h
  | b :: t, h => by
    rw [List.takeWhile_cons]
    by_cases hb : b = 93
    · rw [hb]; simp
    · have h1 : (b != 93) = true := by simpa using hb
      rw [h1, if_pos rfl]
      have h' : 93 ∈ t := by
        rcases List.mem_cons.1 h with h | h
        · exact absurd h.symm hb
        · exact h
      have := tw_lt h'
      simp only [List.length_cons]
      omega
theorem nameS_size {l : List UInt8} {w : List UInt8} {n : Nat} (h : nameS l = some (w, n)) : 1 ≤ n ∧ n ≤ l.length ∧ w.length ≤ n := by
  cases l with
  | nil => cases h
  | cons c t =>
    rw [nameS] at h
    split at h
    · match t, h with
      | [], h => cases h
      | [a], h => cases h
      | a :: b :: t', h =>
        rw [name2] at h
        split at h
        · simp only [Option.some.injEq, Prod.mk.injEq] at h
          obtain ⟨rfl, rfl⟩ := h
          simp
        · cases h
    · split at h
      · split at h
        · rename_i hh
          simp only [Option.some.injEq, Prod.mk.injEq] at h
          obtain ⟨rfl, rfl⟩ := h
          have h1 := tw_lt hh.1
          rw [List.length_cons]
          omega
        · cases h
      · split at h
        · cases h
        · split at h
          · simp only [Option.some.injEq, Prod.mk.injEq] at h
            obtain ⟨rfl, rfl⟩ := h
            simp
          · cases h
theorem eqn (c : UInt8) (n : Int) (m : UInt8) (hn : (m.toNat : Int) = n) : ((c.toNat : Int) = n) ↔ c = m := by
  constructor
  · intro h
    apply UInt8.toNat_inj.1
    omega
  · rintro rfl
    exact hn
theorem tw_split (u v : List UInt8) (h : (93 : UInt8) ∉ u) : (u ++ 93 :: v).takeWhile (· != 93) = u := by
  rw [List.takeWhile_append_of_pos (by intro x hx; simp; rintro rfl; exact h hx)]
  simp
theorem name_f (l : List UInt8) (hn : l.length ≤ 1048576) : Xa.expand_name.f (B l) = some (match nameS l with | some (w, n) => (B w, (n : Int)) | none => (B [], 0)) := by
  unfold Xa.expand_name.f
  rw [toList_B]
  cases l with
  | nil => rfl
  | cons c t =>
    have h0 : bt (B (c :: t)) 0 = (c.toNat : Int) := bt_B (c :: t) 0 (by simp)
    have hs : ((B (c :: t)).size : Int) = (t.length : Int) + 1 := by rw [size_B]; simp
    rw [if_neg (by simp), hs, if_pos (by omega), h0, nameS]
    by_cases h40 : c = 40
    · rw [if_pos (by subst h40; rfl), if_pos h40]
      match t with
      | [] => rw [if_neg (by simp)]; rfl
      | [a] => rw [if_neg (by simp)]; rfl
      | a :: b :: t' =>
        have h1 : bt (B (c :: a :: b :: t')) 1 = (a.toNat : Int) := bt_B (c :: a :: b :: t') 1 (by simp)
        have h2 : bt (B (c :: a :: b :: t')) 2 = (b.toNat : Int) := bt_B (c :: a :: b :: t') 2 (by simp)
        rw [if_pos (by simp; omega), if_pos (by simp; omega), h1, plain_c, Option.bind_some]
        by_cases ha : okc a = true
        · rw [if_pos ha, if_pos (by simp; omega), h2, plain_c, Option.bind_some]
          by_cases hb : okc b = true
          · rw [if_pos hb, if_pos (by omega), if_pos (by simp; omega)]
            rw [name2, if_pos ⟨ha, hb⟩, extract_B]
            rfl
          · rw [if_neg hb, name2, if_neg (fun h => hb h.2)]
            rfl
        · rw [if_neg ha, name2, if_neg (fun h => ha h.1)]
          rfl
    · rw [if_neg (fun h => h40 ((eqn c 40 40 rfl).1 h)), if_neg h40]
      by_cases h91 : c = 91
      · subst h91
        rw [if_pos (by rfl), if_pos rfl]
        have hi : Xa.strings_IndexByte.f (B (91 :: t)) 93 = some (Lib.indexByte (91 :: t) 93) := by unfold Xa.strings_IndexByte.f; rw [data_B]; rfl
        rw [hi, Option.bind_some]
        rcases idx_split t 93 with ⟨hm, he⟩ | ⟨u, v, he, hu, hx⟩
        · have e : Lib.indexByte (91 :: t) 93 = -1 := by rw [Lib.indexByte, he]; rfl
          rw [e, if_pos (by omega), if_neg (fun h => hm h.1)]
          rfl
        · have e : Lib.indexByte (91 :: t) 93 = (u.length : Int) + 1 := by
            rw [Lib.indexByte, hx]
            have : ((u.length : Int) == -1) = false := by rw [beq_eq_false_iff_ne]; omega
            simp [this]
          have htw : t.takeWhile (· != 93) = u := by rw [he]; exact tw_split u v hu
          have hlt : u.length + 1 ≤ t.length := by rw [he]; simp
          rw [e, htw]
          by_cases h1 : 1 ≤ u.length
          · rw [if_neg (by omega)]
            by_cases h20 : u.length ≤ 20
            · rw [if_neg (by omega), if_pos (by omega), if_pos (by omega)]
              have hex : (B (91 :: t)).extract 1 ((u.length : Int) + 1).toNat = B u := by
                rw [extract_B, show ((u.length : Int) + 1).toNat - 1 = u.length by omega, List.drop_succ_cons, List.drop_zero, he, List.take_left']
                rfl
              have hcf : Xa.strings_ContainsFunc.f (B u) = some (!u.all okc) := by unfold Xa.strings_ContainsFunc.f; rw [data_B, out_ok]
              rw [hex, hcf, Option.bind_some]
              by_cases ha : u.all okc = true
              · rw [ha, if_neg (by simp), if_pos ⟨by rw [he]; simp, h1, h20, rfl⟩, w64 (by omega) (by omega)]
                simp
                omega
              · rw [Bool.eq_false_iff.2 ha, if_pos (by rfl), if_neg (fun h => by have := h.2.2.2; simp at this)]
                rfl
            · rw [if_pos (by omega), if_neg (fun h => h20 h.2.2.1)]
              rfl
          · rw [if_pos (by omega), if_neg (fun h => h1 h.2.1)]
            rfl
      · rw [if_neg (fun h => h91 ((eqn c 91 91 rfl).1 h)), if_neg h91]
        by_cases h43 : c = 43
        · rw [if_pos (by subst h43; rfl), if_pos (.inl h43)]
          rfl
        · rw [if_neg (fun h => h43 ((eqn c 43 43 rfl).1 h))]
          by_cases h45 : c = 45
          · rw [if_pos (by subst h45; rfl), if_pos (.inr h45)]
            rfl
          · rw [if_neg (fun h => h45 ((eqn c 45 45 rfl).1 h)), plain_c, Option.bind_some, if_neg (show ¬ (c = 43 ∨ c = 45) from fun h => h.elim h43 h45)]
            by_cases hk : okc c = true
            · rw [if_pos hk, if_pos hk, if_pos (by omega), if_pos (by omega), extract_B]
              rfl
            · rw [if_neg hk, if_neg hk]
              rfl
end Go.Proofs.YtifpjidkfemkfaaDoor.Pure
