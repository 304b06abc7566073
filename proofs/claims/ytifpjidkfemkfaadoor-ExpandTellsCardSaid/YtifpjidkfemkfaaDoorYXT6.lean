/- Layer 4 (expand), the plain law of ExpandTells. -/
import Derived.Test.YtifpjidkfemkfaaDoorYXT5
import Derived.Test.YtifpjidkfemkfaaDoorYXRepl
import Derived.Test.YtifpjidkfemkfaaDoorYa0
import Derived.Test.YtifpjidkfemkfaaDoorYa1
import Derived.Test.YtifpjidkfemkfaaDoorYb0
import Derived.Test.YtifpjidkfemkfaaDoorYb1
import Derived.Test.YtifpjidkfemkfaaDoorYb5
import Derived.Test.YtifpjidkfemkfaaDoorYb6
import Derived.Test.YtifpjidkfemkfaaDoorYb7
set_option linter.unusedVariables false
set_option linter.unusedSimpArgs false
namespace Go.Proofs.YtifpjidkfemkfaaDoor.Pure
open Go.RowKit Go.Proofs.YtifpjidkfemkfaaDoor Go.Proofs.YtifpjidkfemkfaaDoor.Xb Go.Proofs.YtifpjidkfemkfaaDoorW.PrintWords Go.Proofs.YtifpjidkfemkfaaDoorW.PrintLast Go.Proofs.YtifpjidkfemkfaaDoorW.PrintMore
theorem listb_l (l : List ByteArray) (hn : l.length ≤ 1048576) : ∀ (d i : Nat), i + d = l.length → Ev (fun k => frisketlaw04_list.l0 k l l (i : Int)) true
  | 0, i, hi => by
    refine Ev.done (fun k => ?_)
    rw [frisketlaw04_list.l0, if_neg (by omega)]
  | d + 1, i, hi => by
    refine Ev.goes (listb_l l hn d (i + 1) (by omega)) (fun k => ?_)
    rw [frisketlaw04_list.l0, if_pos (by omega), if_pos (by omega), if_pos (by omega), if_pos rfl, w64s (show i < l.length by omega) (by omega)]
theorem listb_same (l : List ByteArray) (hn : l.length ≤ 1048576) : Ev (fun k => frisketlaw04_list.f k l l) true := by
  have h := listb_l l hn l.length 0 (by omega)
  refine Ev.congr (fun k => ?_) h
  rw [frisketlaw04_list.f, if_pos rfl]
  rfl
/-! ### Protect -/
def lineL (l : List UInt8) : Bool := decide (l.length ≤ 2000) && !l.contains 10
theorem fits_f (l : List UInt8) : expand_fits.f (B l) = some (lineL l) := by
  unfold expand_fits.f lineL
  rw [size_B]
  by_cases h : l.length ≤ 2000
  · rw [if_pos (by omega), decide_eq_true h]
    show (some ((B l).data.toList.contains 10)).bind (fun t => some (!t)) = _
    rw [data_B]
    rfl
  · rw [if_neg (by omega), decide_eq_false h]
    rfl
theorem rline_l (l : List UInt8) (hn : l.length ≤ 1000000) : ∀ (d i : Nat), i + d = l.length → Ev (fun k => frisketref04_IsLine.l0 k (B l) (i : Int)) (decide (l.length ≤ 2000) && !(l.drop i).contains 10)
  | 0, i, hi => by
    rw [List.drop_of_length_le (by omega)]
    refine Ev.done (fun k => ?_)
    rw [frisketref04_IsLine.l0, if_neg (by rw [size_B]; omega), size_B]
    simp
    omega
  | d + 1, i, hi => by
    have hlt : i < l.length := by omega
    have ih := rline_l l hn d (i + 1) (by omega)
    rw [List.drop_eq_getElem_cons hlt, List.contains_cons]
    by_cases h10 : l[i] = 10
    · refine Ev.done (fun k => ?_)
      rw [frisketref04_IsLine.l0, if_pos (by rw [size_B]; omega), if_pos (by omega), bt_B l i hlt, if_pos ((eqn _ 10 10 rfl).2 h10), h10]
      simp
    · rw [show ((10 : UInt8) == l[i]) = false from beq_eq_false_iff_ne.2 (fun h => h10 h.symm), Bool.false_or]
      refine Ev.goes ih (fun k => ?_)
      rw [frisketref04_IsLine.l0, if_pos (by rw [size_B]; omega), if_pos (by omega), bt_B l i hlt, if_neg (fun h => h10 ((eqn _ 10 10 rfl).1 h)), w64s hlt (by omega)]
theorem rline_f (l : List UInt8) (hn : l.length ≤ 1000000) : Ev (fun k => frisketref04_IsLine.f k (B l)) (lineL l) := rline_l l hn l.length 0 (by omega)
theorem subst_len : ∀ (l : List UInt8), (subst 92 [92, 92] l).length ≤ 2 * l.length
  | [] => by simp [subst]
  | b :: l => by
    have ih := subst_len l
    unfold subst at ih ⊢
    rw [List.flatMap_cons, List.length_append, List.length_cons]
    have : (if b = 92 then [92, 92] else [b]).length ≤ 2 := by split <;> simp
    omega
def protL (l : List UInt8) : ByteArray × Int := if lineL l = true then (if (subst 92 [92, 92] l).length > 2000 then (B [], 2) else (B (subst 92 [92, 92] l), 0)) else (B [], 1)
theorem protect_f (l : List UInt8) (hn : l.length ≤ 1000000) : expand_Protect.f (B l) = some (protL l) := by
  unfold expand_Protect.f protL
  rw [fits_f, Option.bind_some]
  by_cases h : lineL l = true
  · rw [if_pos h, if_pos h]
    have hc : Lib.countB (B l) ⟨#[92]⟩ ≤ l.length := by
      have := cnt_le 92 (B l).data.toList ((B l).data.toList.length + 1)
      rw [data_B] at this
      unfold Lib.countB Lib.count
      rw [data_B]
      exact this
    have hz : (⟨#[92, 92]⟩ : ByteArray).size = 2 := rfl
    have h1 : strings_ReplaceAll.f (B l) (⟨#[92]⟩ : ByteArray) (⟨#[92, 92]⟩ : ByteArray) = some (B (subst 92 [92, 92] l)) := by
      unfold strings_ReplaceAll.f
      rw [if_pos ⟨by rw [size_B]; omega, by decide, by rw [size_B, hz]; omega⟩, data_B]
      show some (B (Lib.replaceAll l [92] [92, 92])) = _
      rw [replaceAll_one 92 [92, 92] l (by decide)]
    rw [h1, Option.bind_some, size_B]
    by_cases h2 : (subst 92 [92, 92] l).length > 2000
    · rw [if_pos (by omega), if_pos h2]; rfl
    · rw [if_neg (by omega), if_neg h2]
  · rw [if_neg h, if_neg h]; rfl
theorem rprot_l (l : List UInt8) (hn : l.length ≤ 1000000) : ∀ (d i : Nat) (acc : List UInt8), i + d = l.length → acc.length ≤ 2 * i →
    Ev (fun k => frisketref04_Protect.l0 k (B l) (B acc) (i : Int)) (if (acc ++ subst 92 [92, 92] (l.drop i)).length > 2000 then (B [], 2) else (B (acc ++ subst 92 [92, 92] (l.drop i)), 0))
  | 0, i, acc, hi, ha => by
    rw [List.drop_of_length_le (by omega), show subst 92 [92, 92] [] = [] from rfl, List.append_nil]
    refine Ev.done (fun k => ?_)
    rw [frisketref04_Protect.l0, if_neg (by rw [size_B]; omega), size_B]
    by_cases h2 : acc.length > 2000
    · rw [if_pos (by omega), if_pos h2]; rfl
    · rw [if_neg (by omega), if_neg h2]
  | d + 1, i, acc, hi, ha => by
    have hlt : i < l.length := by omega
    have hs : subst 92 [92, 92] (l.drop i) = (if l[i] = 92 then [92, 92] else [l[i]]) ++ subst 92 [92, 92] (l.drop (i + 1)) := by
      unfold subst; rw [List.drop_eq_getElem_cons hlt, List.flatMap_cons]
    rw [hs, ← List.append_assoc]
    have ih := rprot_l l hn d (i + 1) (acc ++ (if l[i] = 92 then [92, 92] else [l[i]])) (by omega) (by rw [List.length_append]; split <;> simp <;> omega)
    refine Ev.goes ih (fun k => ?_)
    rw [frisketref04_Protect.l0, if_pos (by rw [size_B]; omega), if_pos (by omega), w64s hlt (by omega), if_pos (by omega), if_pos (by rw [size_B]; omega), bt_B l i hlt, take1 l i hlt, append_B, append_B, size_B, size_B, size_B, if_pos (by simp; omega)]
    by_cases h92 : l[i] = 92
    · rw [if_pos ((eqn _ 92 92 rfl).2 h92), if_pos (by simp; omega), if_pos h92, h92, List.append_assoc]
      rfl
    · rw [if_neg (fun h => h92 ((eqn _ 92 92 rfl).1 h)), if_neg h92]
theorem rprotect_f (l : List UInt8) (hn : l.length ≤ 1000000) : Ev (fun k => frisketref04_Protect.f k (B l)) (protL l) := by
  unfold frisketref04_Protect.f
  refine Ev.bind (rline_f l hn) ?_
  unfold protL
  by_cases h : lineL l = true
  · rw [if_pos h]
    have h1 := rprot_l l hn l.length 0 [] (by omega) (by simp)
    refine Ev.congr (fun k => ?_) h1
    rw [if_pos h]
    rfl
  · rw [if_neg h]
    refine Ev.congr (fun k => ?_) (Ev.now (B [], 1))
    rw [if_neg h]
    rfl
/-! ### tells -/
theorem tells_f (l : List UInt8) (hn : l.length ≤ 1000000) : Ev (fun k => frisketlaw04_tells.f k (B l)) true := by
  have hj : Ev (fun k => frisketlaw04_tells.j0 k (B l) false) true := by
    have h1 := names_f l hn
    have h2 := rnames_f l.length l (Nat.le_refl _) hn
    have h3 := listb_same ((namesL (l.length + 1) l).map B) (by rw [List.length_map]; have := namesL_len (l.length + 1) l; omega)
    refine Ev.bindStep (F := ?_) h2 (fun k => ?_) ?_
    rotate_left 1
    · rw [frisketlaw04_tells.j0, if_neg Bool.false_ne_true, show expand_Names.f (B l) = _ from h1, Option.bind_some]
    refine Ev.bindNow (F := ?_) h3 (fun k => ?_) ?_
    rotate_left 1
    · rfl
    exact Ev.now true
  unfold frisketlaw04_tells.f
  refine Ev.bindNow (F := ?_) (rprotect_f l hn) (fun k => ?_) ?_
  rotate_left 1
  · rw [protect_f l hn, Option.bind_some]
  refine Ev.bindNow (F := ?_) (rplain_f l hn) (fun k => ?_) ?_
  rotate_left 1
  · rw [if_pos rfl, if_pos rfl, show expand_Plain.f (B l) = _ from plain_f l hn, Option.bind_some]
  refine Ev.congr (fun k => ?_) hj
  rw [bne_self_eq_false]
/-! ### bits -/
def partsT : List (List UInt8) := [[97], [92, 110, 120], [92, 110, 43, 120], [92, 42, 40, 97, 98], [92, 42, 91, 110, 97, 109, 101, 93], [92, 36, 49], [92, 92], [92, 101], [92, 119, 39, 98, 39], [92, 119, 124, 92, 110, 120, 124], [92, 46], [92, 34], [32], [92], [40], [91], [93], [92, 110], [92, 42], [92, 36, 40, 49, 48], [92, 119], [39], [92, 110, 45, 40, 122, 122], [120]]
theorem partsT_le : ∀ p ∈ partsT, p.length ≤ 8 := by decide
theorem rdT (ls : List (List UInt8)) (i : Nat) (h : i < ls.length) : rdOf ByteArray.empty (ls.map B) (i : Int) = B ls[i] := by
  unfold rdOf
  rw [Int.toNat_natCast, List.getD_eq_getElem?_getD, List.getElem?_map, List.getElem?_eq_getElem h]
  rfl
theorem bits_l (l : List Int) (hl : l.length ≤ 60) (hb : ∀ n ∈ l, 0 ≤ n ∧ n ≤ 255) : ∀ (d i : Nat) (acc : List UInt8), i + d = l.length → acc.length ≤ 8 * i →
    ∃ r : List UInt8, r.length ≤ 8 * l.length ∧ Ev (fun k => frisketlaw04_bits.l0 k l (B acc) (i : Int)) (B r)
  | 0, i, acc, hi, ha => ⟨acc, by omega, Ev.done (fun k => by rw [frisketlaw04_bits.l0, if_neg (by omega)])⟩
  | d + 1, i, acc, hi, ha => by
    have hlt : i < l.length := by omega
    have hr : rd l (i : Int) = l[i] := by unfold rd; rw [Int.toNat_natCast, List.getD_eq_getElem?_getD, List.getElem?_eq_getElem hlt]; rfl
    have hv := hb l[i] (List.getElem_mem hlt)
    obtain ⟨m, hm, hm24⟩ : ∃ m : Nat, Int.tmod l[i] 24 = m ∧ m < 24 := by
      refine ⟨(Int.tmod l[i] 24).toNat, ?_, ?_⟩
      · have := Int.tmod_nonneg 24 hv.1; omega
      · have := Int.tmod_lt_of_pos l[i] (show (0 : Int) < 24 by decide); omega
    have hmp : m < partsT.length := hm24
    have hp := partsT_le partsT[m] (List.getElem_mem hmp)
    obtain ⟨r, h1, h2⟩ := bits_l l hl hb d (i + 1) (acc ++ partsT[m]) (by omega) (by rw [List.length_append]; omega)
    refine ⟨r, h1, Ev.goes h2 (fun k => ?_)⟩
    have hrd := rdT partsT m hmp
    rw [frisketlaw04_bits.l0, if_pos (by omega), Option.bind_some, if_pos (by omega), if_neg (by decide), hr, w64 (by omega) (by omega),
      show ((List.length ([(⟨#[97]⟩ : ByteArray), (⟨#[92, 110, 120]⟩ : ByteArray), (⟨#[92, 110, 43, 120]⟩ : ByteArray), (⟨#[92, 42, 40, 97, 98]⟩ : ByteArray), (⟨#[92, 42, 91, 110, 97, 109, 101, 93]⟩ : ByteArray), (⟨#[92, 36, 49]⟩ : ByteArray), (⟨#[92, 92]⟩ : ByteArray), (⟨#[92, 101]⟩ : ByteArray), (⟨#[92, 119, 39, 98, 39]⟩ : ByteArray), (⟨#[92, 119, 124, 92, 110, 120, 124]⟩ : ByteArray), (⟨#[92, 46]⟩ : ByteArray), (⟨#[92, 34]⟩ : ByteArray), (⟨#[32]⟩ : ByteArray), (⟨#[92]⟩ : ByteArray), (⟨#[40]⟩ : ByteArray), (⟨#[91]⟩ : ByteArray), (⟨#[93]⟩ : ByteArray), (⟨#[92, 110]⟩ : ByteArray), (⟨#[92, 42]⟩ : ByteArray), (⟨#[92, 36, 40, 49, 48]⟩ : ByteArray), (⟨#[92, 119]⟩ : ByteArray), (⟨#[39]⟩ : ByteArray), (⟨#[92, 110, 45, 40, 122, 122]⟩ : ByteArray), (⟨#[120]⟩ : ByteArray)] : List ByteArray) : Nat) : Int) = 24 from rfl, hm, if_pos (by omega), if_pos (by omega)]
    show (if (B acc).size + (rdOf ByteArray.empty (partsT.map B) (m : Int)).size ≤ 9223372036854775807 then frisketlaw04_bits.l0 k l (B acc ++ rdOf ByteArray.empty (partsT.map B) (m : Int)) (wrap64 ((i : Int) + 1)) else none) = _
    rw [hrd, size_B, size_B, if_pos (by omega), append_B, w64s hlt (by omega)]
theorem ExpandTells (s : ByteArray) (l : List Int) (hw : ∀ n ∈ l, (Lit.int .u8 n).wf = true) : ∃ k, frisketlaw04_ExpandTells.f k s l = some true := by
  have hsane : ∃ k, frisketlaw04_ExpandTells.j0 k s l true = some true := ⟨1, rfl⟩
  by_cases h1 : (s.size : Int) > 2200
  · obtain ⟨k, hk⟩ := hsane
    exact ⟨k, by rw [frisketlaw04_ExpandTells.f, if_pos h1, hk]⟩
  · by_cases h2 : (l.length : Int) > 60
    · obtain ⟨k, hk⟩ := hsane
      exact ⟨k, by rw [frisketlaw04_ExpandTells.f, if_neg h1, decide_eq_true h2, hk]⟩
    · obtain ⟨ls, rfl⟩ := B_ex s
      rw [size_B] at h1
      have hb : ∀ n ∈ l, 0 ≤ n ∧ n ≤ 255 := by
        intro n hn
        have := hw n hn
        simpa [Lit.wf, IntKind.min, IntKind.max, IntKind.signed, IntKind.bits] using this
      obtain ⟨r, hr, h3⟩ := bits_l l (by omega) hb l.length 0 [] (by omega) (by simp)
      have h4 := tells_f ls (by omega)
      have h5 := tells_f r (by omega)
      have key : Ev (fun k => frisketlaw04_ExpandTells.j0 k (B ls) l false) true := by
        refine Ev.bindStep (F := ?_) h4 (fun k => ?_) ?_
        rotate_left 1
        · rw [frisketlaw04_ExpandTells.j0, if_neg Bool.false_ne_true]
        refine Ev.bindNow (F := ?_) h3 (fun k => ?_) ?_
        rotate_left 1
        · rw [if_pos rfl]; rfl
        refine Ev.bindNow (F := ?_) h5 (fun k => ?_) ?_
        rotate_left 1
        · rfl
        exact Ev.now true
      obtain ⟨k, hk⟩ := Ev.rounds key
      exact ⟨k, by rw [frisketlaw04_ExpandTells.f, if_neg (by rw [size_B]; exact h1), decide_eq_false h2, hk]⟩
end Go.Proofs.YtifpjidkfemkfaaDoor.Pure
