/- Layer 4 (expand): the plain law of ExpandJoins. -/
import Derived.Test.YtifpjidkfemkfaaDoorYXJ
import Derived.Test.YtifpjidkfemkfaaDoorYj0
import Derived.Test.YtifpjidkfemkfaaDoorYj1
import Derived.Test.YtifpjidkfemkfaaDoorYj2
set_option linter.unusedVariables false
set_option linter.unusedSimpArgs false
namespace Go.Proofs.YtifpjidkfemkfaaDoor.Pure
open Go.RowKit Go.Proofs.YtifpjidkfemkfaaDoor Go.Proofs.YtifpjidkfemkfaaDoor.Xj Go.Proofs.YtifpjidkfemkfaaDoorW.PrintWords Go.Proofs.YtifpjidkfemkfaaDoorW.PrintLast Go.Proofs.YtifpjidkfemkfaaDoorW.PrintMore
theorem list_l (l : List ByteArray) (hn : l.length ≤ 1048576) : ∀ (d i : Nat), i + d = l.length → Ev (fun k => frisketlaw04_list.l0 k l l (i : Int)) true
  | 0, i, hi => by
    refine Ev.done (fun k => ?_)
    rw [frisketlaw04_list.l0, if_neg (by omega)]
  | d + 1, i, hi => by
    refine Ev.goes (list_l l hn d (i + 1) (by omega)) (fun k => ?_)
    rw [frisketlaw04_list.l0, if_pos (by omega), if_pos (by omega), if_pos (by omega), if_pos rfl, w64s (show i < l.length by omega) (by omega)]
theorem list_same (l : List ByteArray) (hn : l.length ≤ 1048576) : Ev (fun k => frisketlaw04_list.f k l l) true := by
  have h := list_l l hn l.length 0 (by omega)
  refine Ev.congr (fun k => ?_) h
  rw [frisketlaw04_list.f, if_pos rfl]
  rfl
theorem J_len : ∀ (ls : List (List UInt8)) (s : List UInt8), (J s ls).length ≤ ls.length + 1
  | [], s => by simp [J]
  | l :: ls, s => by
    rw [J]
    split
    · have := J_len ls (s.dropLast ++ l); simp only [List.length_cons]; omega
    · have := J_len ls l; simp only [List.length_cons]; omega
theorem JJ_len (ls : List (List UInt8)) : (JJ ls).length ≤ ls.length := by
  cases ls with
  | nil => simp [JJ]
  | cons l ls => exact J_len ls l
theorem joins_l (ls : List (List UInt8)) (hl : ls.length ≤ 40) (hb : ∀ s ∈ ls, s.length ≤ 140737488351232) : ∀ (d i : Nat), i + d = ls.length → tot (ls.take i) ≤ i * 140737488351232 →
    Ev (fun k => frisketlaw04_ExpandJoins.l0 k (ls.map B) (tot (ls.take i) : Int) (i : Int)) true
  | 0, i, hi, ht => by
    have e : ls.take i = ls := List.take_of_length_le (by omega)
    rw [e] at ht ⊢
    by_cases hg : ((tot ls : Int)) > 4000
    · refine Ev.done (fun k => ?_)
      rw [frisketlaw04_ExpandJoins.l0, if_neg (by rw [List.length_map]; omega), if_pos hg]
      rfl
    · have h1 := pjoin_f ls (by omega) (by omega)
      have h2 := rjoin_f ls (by omega) (by omega)
      have h3 := list_same ((JJ ls).map B) (by rw [List.length_map]; have := JJ_len ls; omega)
      have key : Ev (fun k => (expand_Join.f k (ls.map B)).bind fun t196 => ((frisketref04_Join.f k (ls.map B)).bind fun t199 => ((frisketlaw04_list.f k t196 t199).bind fun t202 => (if t202 = true then ((frisketlaw04_sane.f).bind fun t203 => (some t203)) else (some false))))) true := by
        refine Ev.bind h1 ?_
        refine Ev.bind (f := fun k t199 => ((frisketlaw04_list.f k ((JJ ls).map B) t199).bind fun t202 => (if t202 = true then ((frisketlaw04_sane.f).bind fun t203 => (some t203)) else (some false)))) h2 ?_
        refine Ev.bind (f := fun k t202 => (if t202 = true then ((frisketlaw04_sane.f).bind fun t203 => (some t203)) else (some false))) h3 ?_
        exact Ev.now true
      refine Ev.goes key (fun k => ?_)
      rw [frisketlaw04_ExpandJoins.l0, if_neg (by rw [List.length_map]; omega), if_neg hg]
  | d + 1, i, hi, ht => by
    have hlt : i < ls.length := by omega
    have e : ls.take (i + 1) = ls.take i ++ [ls[i]] := List.take_succ_eq_append_getElem hlt
    have e2 : tot (ls.take (i + 1)) = tot (ls.take i) + ls[i].length := by rw [e]; simp only [tot, List.map_append, List.sum_append, List.map_cons, List.map_nil, List.sum_cons, List.sum_nil, Nat.add_zero]
    have hb' := hb ls[i] (List.getElem_mem hlt)
    have hm : i * 140737488351232 ≤ 40 * 140737488351232 := Nat.mul_le_mul_right _ (by omega)
    have ih := joins_l ls hl hb d (i + 1) (by omega) (by rw [e2]; omega)
    refine Ev.goes ih (fun k => ?_)
    rw [frisketlaw04_ExpandJoins.l0, if_pos (by rw [List.length_map]; omega), if_pos (by omega), rdX ls i hlt, size_B, w64 (by omega) (by omega), w64s hlt (by omega), e2]
    congr 1
theorem ExpandJoins (l : List ByteArray) (hb : ∀ s ∈ l, s.size ≤ 140737488351232) : ∃ k, frisketlaw04_ExpandJoins.f k l = some true := by
  by_cases hl : (l.length : Int) > 40
  · exact ⟨0, by rw [frisketlaw04_ExpandJoins.f, if_pos hl]; rfl⟩
  · obtain ⟨ls, rfl⟩ : ∃ ls : List (List UInt8), l = ls.map B := ⟨l.map (·.data.toList), by rw [List.map_map]; exact (List.map_id'' (fun s => (B_of s).symm) l).symm⟩
    rw [List.length_map] at hl
    have h := joins_l ls (by omega) (fun s hs => by have := hb (B s) (List.mem_map_of_mem hs); rwa [size_B] at this) ls.length 0 (by omega) (by simp [tot])
    obtain ⟨k, hk⟩ := Ev.rounds h
    refine ⟨k, ?_⟩
    rw [frisketlaw04_ExpandJoins.f, if_neg (by rw [List.length_map]; exact hl)]
    exact hk
end Go.Proofs.YtifpjidkfemkfaaDoor.Pure
