/- What a row hands over: lists of numbers and of texts that come in, and how long they may be. -/
import Derived.Test.YteiffkhkannfdaaDoorRows
import Derived.Shelf.Vars
import Derived.Stop.LaidErr
import Derived.Lib.LaidU8
import Derived.Deep.DeepHandedRow
import Derived.Deep.DeepWitnessRowRef
import Derived.SizedLaws
import Derived.SliceStrings
import Derived.WalkKit
import Derived.ProofKit
import Derived.OpenShut
import Derived.Test.YteiffkhkannfdaaDoorYXG
set_option linter.unusedVariables false
set_option linter.unusedSimpArgs false
namespace Go.Proofs.YteiffkhkannfdaaDoor.Arg
open Go.ChangeShapes Go.WideShapes Go.ChangeAt Go.RowKit Go.Joins Go.Deep Go.Proofs.YteiffkhkannfdaaDoor Go.Proofs.YteiffkhkannfdaaDoorW.PrintWords
/-- A list of whole numbers, as the walk wants it. -/
theorem open_nums {H : Type} {enc : TypeId × Value → H} {k : IntKind} {t e : TypeId} {W : World} {fuel : Nat} {v : Value} {y : DataW H × List MemPlace} (ht : Tryd.prog.underlying t = some (.slice e)) (he : Tryd.prog.underlying e = some (.int k)) (hc : Tryd.prog.cellsOf e = 1)
    (h : DataW.trod enc Tryd.prog W 0 (fun _ => true) true fuel t [v] = some y) :
    ∃ (A : Option Addr) (c : Nat) (l : List Int), v = .slice A l.length c ∧ Kd.C (Kd.int k) W A l.length l ∧ l.length ≤ c ∧ ∀ n ∈ l, (Lit.int k n).wf = true := by
  rcases open_ints ht he hc h with ⟨hcs, rfl⟩ | ⟨a, len, cap, zs, hcs, _, hl, hm, hz, rfl, hcell, hw⟩
  · simp only [List.cons.injEq, and_true] at hcs
    subst hcs
    exact ⟨none, 0, [], rfl, ⟨rfl, by decide, fun h => absurd h (by decide)⟩, Nat.le_refl _, fun n hn => by cases hn⟩
  · simp only [List.cons.injEq, and_true] at hcs
    subst hcs
    simp only [if_true] at hz
    have hlen : (zs.take len).length = len := by rw [List.length_take]; omega
    refine ⟨some a, cap, zs.take len, by rw [hlen], ⟨rfl, ?_, fun _ => ⟨a, rfl, fun j p hp => ?_⟩⟩, by rw [hlen]; exact hl, fun n hn => hw n (List.mem_of_mem_take hn)⟩
    · rw [hlen]
      have : cap ≤ 9223372036854775807 := hm
      omega
    · have hj : j < len := by
        have := (List.getElem?_eq_some_iff.1 hp).1
        omega
      rw [List.getElem?_take_of_lt hj] at hp
      refine ⟨[.int k p], rfl, rfl, fun i u hu => ?_⟩
      have hi : i = 0 := by
        have := (List.getElem?_eq_some_iff.1 hu).1
        simp at this
        exact this
      subst hi
      have hu' : Value.int k p = u := by simpa using hu
      subst hu'
      have e : a.add (j * (Kd.int k).sz + 0) = a.add j := by rw [show (Kd.int k).sz = 1 from rfl, Nat.mul_one, Nat.add_zero]
      rw [e, hcell j (by omega), List.getD_eq_getElem?_getD, hp]
      rfl
theorem weights_strs {H : Type} {e : TypeId} : ∀ (ss : List ByteArray) (s : ByteArray), s ∈ ss → s.size ∈ DataW.weightsAll Tryd.prog e (strs (H := H) ss)
  | [], _, h => by cases h
  | x :: ss, s, h => by
    have e1 : DataW.weightsAll Tryd.prog e (strs (H := H) (x :: ss)) = [x.size] ++ DataW.weightsAll Tryd.prog e (strs (H := H) ss) := by
      rw [strs, List.map_cons, DataW.weightsAll]
      simp [DataW.weights, strs]
    rw [e1]
    rcases List.mem_cons.1 h with rfl | h
    · simp
    · exact List.mem_append_right _ (weights_strs ss s h)
/-- A list of texts, as the walk wants it; how long each may be. -/
theorem open_strs {H : Type} {enc : TypeId × Value → H} {t e : TypeId} {W : World} {fuel : Nat} {v : Value} {y : DataW H × List MemPlace} (ht : Tryd.prog.underlying t = some (.slice e)) (he : Tryd.prog.underlying e = some .string) (hc : Tryd.prog.cellsOf e = 1)
    (h : DataW.trod enc Tryd.prog W 0 (fun _ => true) true fuel t [v] = some y) :
    ∃ (A : Option Addr) (c : Nat) (l : List ByteArray), v = .slice A l.length c ∧ Kd.C Kd.string W A l.length l ∧ l.length ≤ c ∧ ((∀ n ∈ y.1.weights Tryd.prog t, n ≤ reachBytes) → ∀ s ∈ l, s.size ≤ reachBytes) := by
  rcases open_strings ht he hc h with ⟨hcs, rfl⟩ | ⟨a, len, cap, ss, hcs, _, hl, hm, hz, rfl, hcell, _⟩
  · simp only [List.cons.injEq, and_true] at hcs
    subst hcs
    exact ⟨none, 0, [], rfl, ⟨rfl, by decide, fun h => absurd h (by decide)⟩, Nat.le_refl _, fun _ s hs => by cases hs⟩
  · simp only [List.cons.injEq, and_true] at hcs
    subst hcs
    simp only [if_true] at hz
    have hlen : (ss.take len).length = len := by rw [List.length_take]; omega
    refine ⟨some a, cap, ss.take len, by rw [hlen], ⟨rfl, ?_, fun _ => ⟨a, rfl, fun j p hp => ?_⟩⟩, by rw [hlen]; exact hl, fun hw s hs => ?_⟩
    · rw [hlen]
      have : cap ≤ 9223372036854775807 := hm
      omega
    · have hj : j < len := by
        have := (List.getElem?_eq_some_iff.1 hp).1
        omega
      rw [List.getElem?_take_of_lt hj] at hp
      refine ⟨[.string p], rfl, rfl, fun i u hu => ?_⟩
      have hi : i = 0 := by
        have := (List.getElem?_eq_some_iff.1 hu).1
        simp at this
        exact this
      subst hi
      have hu' : Value.string p = u := by simpa using hu
      subst hu'
      have e : a.add (j * Kd.string.sz + 0) = a.add j := by rw [show Kd.string.sz = 1 from rfl, Nat.mul_one, Nat.add_zero]
      rw [e, hcell j (by omega), List.getD_eq_getElem?_getD, hp]
      rfl
    · refine hw _ ?_
      rw [DataW.weights, ht]
      exact List.mem_cons_of_mem _ (List.mem_append_left _ (weights_strs _ s hs))
theorem each_le {H : Type} {ts : List TypeId} {ds : List (DataW H)} (h : (DataW.weightsEach Tryd.prog ts ds).all (· ≤ reachBytes) = true) {j : Nat} {t : TypeId} {d : DataW H} (ht : ts[j]? = some t) (hd : ds[j]? = some d) : ∀ n ∈ d.weights Tryd.prog t, n ≤ reachBytes := by
  intro n hn
  have := List.all_eq_true.1 h n (DataW.weights_mem_each ht hd n hn)
  simpa using this
end Go.Proofs.YteiffkhkannfdaaDoor.Arg
