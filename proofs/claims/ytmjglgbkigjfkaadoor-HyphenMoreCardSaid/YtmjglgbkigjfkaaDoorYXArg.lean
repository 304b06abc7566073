/- Layer 9 (hyphen): what a row hands over: lists of texts within a struct, the bulk's bound, the library's variables; the witness's world. -/
import Derived.Test.YtmjglgbkigjfkaaDoorRows
import Derived.Shelf.Vars
import Derived.Stop.LaidErr
import Derived.Lib.LaidU8
import Derived.Deep.DeepHandedRow
import Derived.Deep.DeepWitnessRowRef
import Derived.SizedLaws
import Derived.SliceStrings
import Derived.WalkKit
import Derived.ProofKit
import Derived.OpenShut
import Derived.Test.YtmjglgbkigjfkaaDoorYQ0
set_option linter.unusedVariables false
set_option linter.unusedSimpArgs false
namespace Go.Proofs.YtmjglgbkigjfkaaDoor.Arg
open Go.ChangeShapes Go.WideShapes Go.ChangeAt Go.RowKit Go.Joins Go.Deep Go.Proofs.YtmjglgbkigjfkaaDoor Go.Proofs.YtmjglgbkigjfkaaDoorW.PrintWords
theorem bulk_append {H : Type} (l r : List (DataW H)) : Rows.uptoBulkAll (l ++ r) = Rows.uptoBulkAll l + Rows.uptoBulkAll r := by
  induction l with
  | nil => simp [Rows.uptoBulkAll]
  | cons x l ih => simp only [List.cons_append, Rows.uptoBulkAll, ih]; omega
theorem bulk_strs {H : Type} : ∀ (ss : List ByteArray), ss.length ≤ Rows.uptoBulkAll (strs (H := H) ss) ∧ ∀ s ∈ ss, s.size ≤ Rows.uptoBulkAll (strs (H := H) ss)
  | [] => ⟨Nat.zero_le _, fun _ h => by cases h⟩
  | s :: ss => by
    obtain ⟨h1, h2⟩ := bulk_strs (H := H) ss
    have e : Rows.uptoBulkAll (strs (H := H) (s :: ss)) = (s.size + 1) + Rows.uptoBulkAll (strs (H := H) ss) := by
      rw [strs, List.map_cons, Rows.uptoBulkAll, Rows.uptoBulk]
      rfl
    rw [e]
    refine ⟨by rw [List.length_cons]; omega, fun x hx => ?_⟩
    rcases List.mem_cons.1 hx with rfl | hx
    · omega
    · have := h2 x hx
      omega
/-- A []string, as the walk wants it, and its bulk. -/
theorem open_rows {H : Type} {enc : TypeId × Value → H} {W : World} {fuel : Nat} {v : Value} {y : DataW H × List MemPlace} (h : DataW.trod enc Tryd.prog W 0 (fun _ => true) true fuel 26 [v] = some y) :
    ∃ (A : Option Addr) (c : Nat) (l : List ByteArray), v = .slice A l.length c ∧ Kd.C Kd.string W A l.length l ∧ l.length ≤ c ∧ l.length ≤ Rows.uptoBulk y.1 ∧ ∀ s ∈ l, s.size ≤ Rows.uptoBulk y.1 := by
  rcases open_strings Tryd.underlying26 Tryd.underlying9 (by kernel_rfl) h with ⟨hcs, rfl⟩ | ⟨a, len, cap, ss, hcs, _, hl, hm, hz, rfl, hcell, _⟩
  · simp only [List.cons.injEq, and_true] at hcs
    subst hcs
    exact ⟨none, 0, [], rfl, ⟨rfl, by decide, fun h => absurd h (by decide)⟩, Nat.le_refl _, by simp, fun s hs => by cases hs⟩
  · simp only [List.cons.injEq, and_true] at hcs
    subst hcs
    simp only [if_true] at hz
    have hlen : (ss.take len).length = len := by rw [List.length_take]; omega
    have hb : Rows.uptoBulk (.slice (strs (H := H) (ss.take len)) (strs (ss.drop len))) = Rows.uptoBulkAll (strs (H := H) (ss.take len)) + Rows.uptoBulkAll (strs (H := H) (ss.drop len)) + 1 := by rw [Rows.uptoBulk]
    obtain ⟨b1, b2⟩ := bulk_strs (H := H) (ss.take len)
    refine ⟨some a, cap, ss.take len, by rw [hlen], ⟨rfl, ?_, fun _ => ⟨a, rfl, fun j p hp => ?_⟩⟩, by rw [hlen]; exact hl, by rw [hb]; omega, fun s hs => ?_⟩
    · rw [hlen]
      have : cap ≤ 9223372036854775807 := hm
      omega
    · have hj : j < len := by
        have := (List.getElem?_eq_some_iff.1 hp).1
        omega
      rw [List.getElem?_take_of_lt hj] at hp
      refine ⟨[.string p], rfl, rfl, fun i u hu => ?_⟩
      have hi : i = 0 := by
        have := (List.getElem?_eq_some_iff.1 hu).1
        simp at this
        exact this
      subst hi
      have hu' : Value.string p = u := by simpa using hu
      subst hu'
      have e : a.add (j * Kd.string.sz + 0) = a.add j := by rw [show Kd.string.sz = 1 from rfl, Nat.mul_one, Nat.add_zero]
      rw [e, hcell j (by omega), List.getD_eq_getElem?_getD, hp]
      rfl
    · have := b2 s hs
      rw [hb]
      omega
theorem bound {H : Type} {l : List (DataW H)} (hk : Rows.uptoSmall H l = true) : Rows.uptoBulkAll l ≤ 1048576 := of_decide_eq_true hk
theorem begin_size : decide (8 ≤ (begin Tryd.prog (fun _ _ => 0) default).world.heap.size) = true := by kernel_rfl
theorem globals_size : Tryd.prog.globals.size = 6 := by kernel_rfl
set_option maxRecDepth 100000 in
/-- What the walks ask of the library's variables. -/
theorem gw {W : World} (hL : laidMetH Tryd.prog Rows.hyphenRawRow.laid W) (hsh : W.ShapedOpen Tryd.prog) : GW W where
  size := by
    obtain ⟨o, o₀, h, _⟩ := hsh.2 7 (by rw [globals_size]; decide) (of_decide_eq_true begin_size)
    exact Nat.succ_le_of_lt (Array.getElem?_eq_some_iff.1 h).1
  maxlen := cell_of_shapedOpen_int (t := 3) (zero := #[.int .i64 0]) hsh (by rw [globals_size]; decide) (by kernel_rfl) rfl (by kernel_rfl) (by kernel_rfl) Tryd.underlying3
  ascii := by
    have h : laidMet Tryd.prog [("unicode/utf8.acceptRanges", Rows.laid_unicode_utf8_acceptRanges), ("unicode.White_Space", Rows.laid_unicode_White_Space), ("strings.asciiSpace", Rows.laid_strings_asciiSpace), ("unicode/utf8.first", Rows.laid_unicode_utf8_first)] W := hL
    exact Lib.tabIs_of_head (t := 78) (e := 5) (n := 256) asciiAt (by kernel_rfl) (by kernel_rfl) (by kernel_rfl) (by kernel_rfl) (by kernel_rfl) h.tail.tail
/-- The witness's world: the settled one and two blocks more (unicode.White_Space's ranges; its table), the variables holding what their initialisers lay. -/
noncomputable def laidWorld (os : Os) : World :=
  let N := (World.settled Tryd.prog os).heap.size
  let w0 := World.holding Tryd.prog os ⟨#[.cells (Lib.whiteT.map fun (z : Nat) => Value.int .u16 (z : Int)).toArray 108, .cells #[.slice (some ⟨N, 0, none⟩) 7 7, .slice none 0 0, .int .i64 2] 105], #[], []⟩
  let put (h : Array Obj) (g : Nat) (cs : Array Value) : Array Obj := h.modify g fun
    | .cells _ t frozen => .cells cs t frozen
    | o => o
  let h1 := put w0.heap 0 (Lib.asciiSpaceTab.map fun z => Value.int .u8 z).toArray
  let h2 := put h1 3 (Lib.firstTab.map fun z => Value.int .u8 z).toArray
  let h3 := put h2 4 ((List.range 16).flatMap fun i => [Value.int .u8 (Lib.accLo i), Value.int .u8 (Lib.accHi i)]).toArray
  let h4 := put h3 1 #[.pointer (some ⟨N + 1, 0, none⟩)]
  { w0 with heap := h4 }
set_option maxRecDepth 100000 in
theorem laid_met (os : Os) (args : Array Value) : laidMet Tryd.prog Rows.hyphenRawRow.laid ((laidWorld os).forCall (fun _ _ => 0) ⟨#[], args, []⟩).memory :=
  laidMet_of_run' 10 (by kernel_rfl) (by kernel_rfl)
end Go.Proofs.YtmjglgbkigjfkaaDoor.Arg
