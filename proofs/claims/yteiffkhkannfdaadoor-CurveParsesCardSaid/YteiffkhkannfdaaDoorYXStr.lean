/- Plain facts on the library's functions over texts: a byte's place, a rune that is out of 33 .. 126. -/
import Derived.Lib.Bytealg
import Derived.Lib.DecodeN
import Derived.Shelf.GgClosure.StringsIndexFunc
set_option linter.unusedVariables false
set_option linter.unusedSimpArgs false
namespace Go.Proofs.YteiffkhkannfdaaDoor
set_option linter.unusedVariables false
theorem one_byte {a : ByteArray} {c : UInt8} (h : a.data.toList = [c]) : a = ⟨#[c]⟩ := by
  cases a with
  | mk d => cases d with
    | mk l => simp at h; subst h; rfl
theorem index_neg : ∀ (l : List UInt8) (c : UInt8), l.contains c = false → Lib.indexByte l c = -1
  | [], _, _ => rfl
  | b :: l, c, h => by
    rw [List.contains_cons, Bool.or_eq_false_iff] at h
    have ih := index_neg l c h.2
    have hb : (b == c) = false := by rw [← h.1]; exact Bool.beq_comm
    rw [Lib.indexByte, ih, hb]
    rfl
theorem index_pos : ∀ (l : List UInt8) (c : UInt8), l.contains c = true → ∃ n : Nat, Lib.indexByte l c = n ∧ n < l.length ∧ l[n]? = some c ∧ ∀ i, i < n → l[i]? ≠ some c
  | [], _, h => by simp at h
  | b :: l, c, h => by
    by_cases hb : b = c
    · subst hb
      exact ⟨0, by simp [Lib.indexByte], by simp, by simp, fun i hi => by omega⟩
    · have h2 : l.contains c = true := by
        rw [List.contains_cons, Bool.or_eq_true] at h
        rcases h with h | h
        · exact absurd (beq_iff_eq.1 h).symm hb
        · exact h
      obtain ⟨n, h3, h4, h5, h6⟩ := index_pos l c h2
      have hb' : (b == c) = false := beq_eq_false_iff_ne.2 hb
      refine ⟨n + 1, ?_, by simp; omega, by simpa using h5, fun i hi => ?_⟩
      · rw [Lib.indexByte, hb', h3]
        have : ((n : Int) == -1) = false := by
          rw [beq_eq_false_iff_ne]; omega
        simp [this]
      · cases i with
        | zero => simpa using hb
        | succ i => simpa using h6 i (by omega)
theorem contains_index (l : List UInt8) (c : UInt8) : decide (0 ≤ Lib.indexByte l c) = l.contains c := by
  cases h : l.contains c with
  | false => rw [index_neg l c h]; rfl
  | true =>
    obtain ⟨n, h1, _⟩ := index_pos l c h
    rw [h1]
    exact decide_eq_true (by omega)
def outB (b : UInt8) : Bool := decide (b.toNat < 33) || decide (126 < b.toNat)
def outR (r : Nat) : Bool := decide (r < 33) || decide (126 < r)
theorem decode_ascii (s : ByteArray) (i : Nat) (h : (s.get! i).toNat < 128) : Utf8.decode s i = ((s.get! i).toNat, 1) := by
  rw [Lib.decode_at, Lib.decodeN, if_pos h]
theorem decode_other (s : ByteArray) (i : Nat) (h : 128 ≤ (s.get! i).toNat) : 128 ≤ (Utf8.decode s i).1 := by
  rw [Lib.decode_at]
  generalize s.size - i = n
  generalize (s.get! i).toNat = b0 at h ⊢
  generalize (s.get! (i + 1)).toNat = b1
  generalize (s.get! (i + 2)).toNat = b2
  generalize (s.get! (i + 3)).toNat = b3
  unfold Lib.decodeN
  rw [if_neg (by omega)]
  repeat' split
  all_goals (simp only []; omega)
theorem get_list (s : ByteArray) (i : Nat) (h : i < s.size) : s.get! i = s.data.toList[i]'(by simpa using h) := by
  have h2 : i < s.data.size := h
  show s.data[i]! = _
  rw [getElem!_pos s.data i h2]
  simp
theorem idxFrom_out (s : ByteArray) : ∀ (f pos : Nat), s.size ≤ pos + f → decide (0 ≤ Lib.idxFuncFrom outR true s f pos) = (s.data.toList.drop pos).any outB
  | 0, pos, h => by
    rw [List.drop_of_length_le (by simp; omega)]
    rfl
  | f + 1, pos, h => by
    rw [Lib.idxFuncFrom]
    by_cases hp : pos < s.size
    · have hl : pos < s.data.toList.length := by simpa using hp
      have hd : s.data.toList.drop pos = s.data.toList[pos] :: s.data.toList.drop (pos + 1) := List.drop_eq_getElem_cons hl
      have hg := get_list s pos hp
      rw [if_pos hp, hd, List.any_cons]
      by_cases ha : (s.get! pos).toNat < 128
      · rw [decode_ascii s pos ha]
        have e : outR (s.get! pos).toNat = outB s.data.toList[pos] := by rw [hg]; rfl
        simp only [e]
        cases hb : outB s.data.toList[pos] with
        | true => simp
        | false => simp only [Bool.false_eq_true, if_false, Bool.false_or]; exact idxFrom_out s f (pos + 1) (by omega)
      · have h1 := decode_other s pos (by omega)
        have e1 : outR (Utf8.decode s pos).1 = true := by unfold outR; simp; omega
        have e2 : outB s.data.toList[pos] = true := by rw [← hg]; unfold outB; simp; omega
        rw [e1, e2]
        simp
    · rw [if_neg hp, List.drop_of_length_le (by simp; omega)]
      rfl
theorem idx_out (s : ByteArray) : decide (0 ≤ Lib.idxFunc outR true s) = s.data.toList.any outB := by
  have := idxFrom_out s s.size 0 (by omega)
  rw [List.drop_zero] at this
  exact this
end Go.Proofs.YteiffkhkannfdaaDoor
