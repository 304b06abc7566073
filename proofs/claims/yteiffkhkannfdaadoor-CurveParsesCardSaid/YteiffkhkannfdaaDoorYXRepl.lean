/- Plain words on texts: a byte's place splits a text; ReplaceAll of one byte. -/
import Derived.Lib.Replace
import Derived.Test.YteiffkhkannfdaaDoorYXB
import Derived.Test.YteiffkhkannfdaaDoorYXStr
set_option linter.unusedVariables false
set_option linter.unusedSimpArgs false
namespace Go.Proofs.YteiffkhkannfdaaDoor.Pure
open Go.RowKit Go.Proofs.YteiffkhkannfdaaDoor Go.Proofs.YteiffkhkannfdaaDoorW.PrintWords Go.Proofs.YteiffkhkannfdaaDoorW.PrintLast Go.Proofs.YteiffkhkannfdaaDoorW.PrintMore
theorem idx_split (l : List UInt8) (c : UInt8) : (c ∉ l ∧ Lib.indexByte l c = -1) ∨ ∃ u v, l = u ++ c :: v ∧ c ∉ u ∧ Lib.indexByte l c = (u.length : Int) := by
  cases h : l.contains c with
  | false => exact .inl ⟨by simpa using h, index_neg l c h⟩
  | true =>
    obtain ⟨n, h1, h2, h3, h4⟩ := index_pos l c h
    refine .inr ⟨l.take n, l.drop (n + 1), ?_, ?_, ?_⟩
    · have e : l[n] = c := by
        rw [List.getElem?_eq_getElem h2] at h3
        exact Option.some.inj h3
      rw [← e, ← List.drop_eq_getElem_cons h2, List.take_append_drop]
    · intro hm
      obtain ⟨i, hi, he⟩ := List.getElem_of_mem hm
      have hin : i < n := by rw [List.length_take] at hi; omega
      refine h4 i hin ?_
      rw [List.getElem_take] at he
      rw [List.getElem?_eq_getElem (by omega), he]
    · rw [h1, List.length_take, Nat.min_eq_left (by omega)]
/-- A byte c written as 'new', all others as they are. -/
def subst (c : UInt8) (new : List UInt8) (l : List UInt8) : List UInt8 := l.flatMap fun b => if b = c then new else [b]
section
variable (c : UInt8) (new : List UInt8)
theorem idx_cons (b : UInt8) (l : List UInt8) (h : b ≠ c) : Lib.index (b :: l) [c] = if Lib.index l [c] == -1 then -1 else Lib.index l [c] + 1 := by
  rw [Lib.index_one, Lib.index_one, Lib.indexByte, if_neg (by simpa using h)]
theorem idx_hit (l : List UInt8) : Lib.index (c :: l) [c] = 0 := by
  rw [Lib.index_one, Lib.indexByte, if_pos (by simp)]
theorem idx_nat (l : List UInt8) (h : ¬ (Lib.index l [c] == -1) = true) : ∃ i : Nat, Lib.index l [c] = i := by
  have h1 := Lib.index_ge l [c]
  have h2 : Lib.index l [c] ≠ -1 := fun e => h (beq_iff_eq.2 e)
  exact ⟨(Lib.index l [c]).toNat, by omega⟩
theorem repK_cons (b : UInt8) (l : List UInt8) (h : b ≠ c) : ∀ n, Lib.replaceK [c] new n (b :: l) = b :: Lib.replaceK [c] new n l
  | 0 => rfl
  | n + 1 => by
    by_cases hi : (Lib.index l [c] == -1) = true
    · have hb : (Lib.index (b :: l) [c] == -1) = true := by rw [idx_cons c b l h, if_pos hi]; rfl
      rw [Lib.replaceK, if_pos hb, Lib.replaceK, if_pos hi]
    · obtain ⟨i, e⟩ := idx_nat c l hi
      have eb : Lib.index (b :: l) [c] = ((i + 1 : Nat) : Int) := by rw [idx_cons c b l h, if_neg hi, e]; omega
      rw [Lib.replaceK_hit _ _ _ _ _ eb, Lib.replaceK_hit _ _ _ _ _ e]
      simp only [List.length_singleton, List.take_succ_cons, List.cons_append]
      rw [show i + 1 + 1 = (i + 1) + 1 from rfl, List.drop_succ_cons]
theorem repK_hit (l : List UInt8) (n : Nat) : Lib.replaceK [c] new (n + 1) (c :: l) = new ++ Lib.replaceK [c] new n l := by
  rw [Lib.replaceK_hit _ _ _ _ 0 (idx_hit c l)]
  rfl
theorem cnt_cons (b : UInt8) (l : List UInt8) (h : b ≠ c) : ∀ f, Lib.countFrom [c] f (b :: l) = Lib.countFrom [c] f l
  | 0 => rfl
  | f + 1 => by
    by_cases hi : (Lib.index l [c] == -1) = true
    · have hb : (Lib.index (b :: l) [c] == -1) = true := by rw [idx_cons c b l h, if_pos hi]; rfl
      rw [Lib.countFrom, if_pos hb, Lib.countFrom, if_pos hi]
    · obtain ⟨i, e⟩ := idx_nat c l hi
      have eb : Lib.index (b :: l) [c] = ((i + 1 : Nat) : Int) := by rw [idx_cons c b l h, if_neg hi, e]; omega
      have hb : ¬ (Lib.index (b :: l) [c] == -1) = true := by rw [eb]; intro e2; have := beq_iff_eq.1 e2; omega
      rw [Lib.countFrom, if_neg hb, Lib.countFrom, if_neg hi, eb, e]
      rfl
theorem cnt_hit (l : List UInt8) (f : Nat) : Lib.countFrom [c] (f + 1) (c :: l) = 1 + Lib.countFrom [c] f l := by
  rw [Lib.countFrom, idx_hit, if_neg (by decide)]
  rfl
theorem rep_all (c : UInt8) (new : List UInt8) : ∀ (l : List UInt8) (f : Nat), l.length < f → Lib.replaceK [c] new (Lib.countFrom [c] f l) l = subst c new l
  | [], f, h => by
    cases f with
    | zero => exact absurd h (by simp)
    | succ f => rfl
  | b :: l, f, h => by
    by_cases hb : b = c
    · rw [hb]
      cases f with
      | zero => exact absurd h (by simp)
      | succ f =>
        rw [cnt_hit, Nat.add_comm, repK_hit, rep_all c new l f (by simp at h; omega)]
        simp [subst]
    · rw [cnt_cons c b l hb, repK_cons c new b l hb, rep_all c new l f (by simp at h; omega)]
      simp [subst, hb]
theorem replaceAll_one (l : List UInt8) (hne : new ≠ [c]) : Lib.replaceAll l [c] new = subst c new l := by
  unfold Lib.replaceAll Lib.replace Lib.replaceNum
  rw [if_neg (by intro h; exact hne (beq_iff_eq.1 h).symm), if_pos (.inl (by decide))]
  exact rep_all c new l (l.length + 1) (by omega)
theorem cnt_le (c : UInt8) : ∀ (l : List UInt8) (f : Nat), Lib.countFrom [c] f l ≤ l.length
  | [], f => by cases f <;> simp [Lib.countFrom, Lib.index_one, Lib.indexByte]
  | b :: l, f => by
    by_cases hb : b = c
    · rw [hb]
      cases f with
      | zero => simp [Lib.countFrom]
      | succ f => rw [cnt_hit, List.length_cons]; have := cnt_le c l f; omega
    · rw [cnt_cons c b l hb, List.length_cons]; have := cnt_le c l f; omega
end
end Go.Proofs.YteiffkhkannfdaaDoor.Pure
