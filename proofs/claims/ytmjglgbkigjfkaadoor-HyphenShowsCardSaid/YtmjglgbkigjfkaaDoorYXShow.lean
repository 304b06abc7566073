/- Layer 9 (hyphen), the plain law: Show of both sides is one function. -/
import Derived.Test.YtmjglgbkigjfkaaDoorYQ3
import Derived.Test.YtmjglgbkigjfkaaDoorYXWd
import Derived.Test.YtmjglgbkigjfkaaDoorYa0
import Derived.Test.YtmjglgbkigjfkaaDoorYa5
import Derived.Test.YtmjglgbkigjfkaaDoorYa30
import Derived.Test.YtmjglgbkigjfkaaDoorYa31
set_option linter.unusedVariables false
set_option linter.unusedSimpArgs false
namespace Go.Proofs.YtmjglgbkigjfkaaDoor.Pure
open Go.RowKit Go.Proofs.YtmjglgbkigjfkaaDoor Go.Proofs.YtmjglgbkigjfkaaDoor.Xa Go.Proofs.YtmjglgbkigjfkaaDoorW.PrintWords Go.Proofs.YtmjglgbkigjfkaaDoorW.PrintLast Go.Proofs.YtmjglgbkigjfkaaDoorW.PrintMore
def showR (w : List UInt8) : List UInt8 → Nat → List Int → List UInt8 × Int
  | acc, fr, [] => (acc ++ w.drop fr, 0)
  | acc, fr, p :: ps => if p ≤ (fr : Int) ∨ p ≥ (w.length : Int) then ([], 1) else showR w (acc ++ ((w.drop fr).take (p.toNat - fr) ++ [45])) p.toNat ps
def showS (w : List UInt8) (ps : List Int) : List UInt8 × Int := if wordS w = true then showR w [] 0 ps else ([], 1)
def pB (r : List UInt8 × Int) : ByteArray × Int := (B r.1, r.2)
theorem dashB : (⟨#[45]⟩ : ByteArray) = B [45] := rfl
theorem cut_B (w : List UInt8) (a b : Nat) : (B w).extract ((a : Int)).toNat ((b : Int)).toNat = B ((w.drop a).take (b - a)) := by
  rw [Int.toNat_natCast, Int.toNat_natCast, extract_B]
theorem end_B (w : List UInt8) (a : Nat) : (B w).extract ((a : Int)).toNat (B w).size = B (w.drop a) := by
  rw [Int.toNat_natCast, extract_B, List.take_of_length_le]
  rw [size_B, List.length_drop]
  omega
theorem show_l (w : List UInt8) (hw : w.length ≤ 1048576) (ps : List Int) (hn : ps.length ≤ 17592186044416) : ∀ (d i : Nat), i + d = ps.length → ∀ (acc : List UInt8) (fr : Nat), acc.length ≤ 2 * fr → fr ≤ w.length →
    Ev (fun k => hyphen_Show.l0 k (B w) (B acc) (fr : Int) ps (ps.length : Int) (i : Int)) (pB (showR w acc fr (ps.drop i)))
  | 0, i, hi, acc, fr, ha, hf => by
    have e : ps.drop i = [] := List.drop_eq_nil_of_le (by omega)
    refine Ev.step (f := fun _ => some (pB (showR w acc fr (ps.drop i)))) (fun k => ?_) (Ev.now _)
    rw [hyphen_Show.l0, if_neg (by omega), if_pos (by omega), if_pos (by rw [size_B]; omega), end_B, if_pos (by rw [size_B, size_B, List.length_drop]; omega), append_B, e]
    rfl
  | d + 1, i, hi, acc, fr, ha, hf => by
    have h1 : i < ps.length := by omega
    rw [List.drop_eq_getElem_cons h1, showR]
    by_cases h2 : ps[i] ≤ (fr : Int)
    · rw [if_pos (.inl h2)]
      refine Ev.step (f := fun _ => some (pB ([], 1))) (fun k => ?_) (Ev.now _)
      rw [hyphen_Show.l0, if_pos (by omega), if_pos (by omega), if_pos (by omega), rd_at ps i h1, if_pos h2]
      rfl
    · by_cases h3 : ps[i] ≥ (w.length : Int)
      · rw [if_pos (.inr h3)]
        refine Ev.step (f := fun _ => some (pB ([], 1))) (fun k => ?_) (Ev.now _)
        rw [hyphen_Show.l0, if_pos (by omega), if_pos (by omega), if_pos (by omega), rd_at ps i h1, if_neg h2, if_pos (by rw [size_B]; exact h3)]
        rfl
      · rw [if_neg (by omega)]
        obtain ⟨p, e⟩ : ∃ p : Nat, ps[i] = (p : Int) := ⟨ps[i].toNat, by omega⟩
        rw [e] at h2 h3 ⊢
        have hlen : ((w.drop fr).take (p - fr)).length = p - fr := by rw [List.length_take, List.length_drop]; omega
        rw [show ((p : Int)).toNat = p from Int.toNat_natCast p]
        refine Ev.step (fun k => ?_) (show_l w hw ps hn d (i + 1) (by omega) (acc ++ ((w.drop fr).take (p - fr) ++ [45])) p (by rw [List.length_append, List.length_append, hlen, List.length_singleton]; omega) (by omega))
        rw [hyphen_Show.l0, if_pos (by omega), if_pos (by omega), if_pos (by omega), rd_at ps i h1, e, if_neg h2, if_neg (by rw [size_B]; exact h3), if_pos (by omega), if_pos (by omega), if_pos (by rw [size_B]; omega), cut_B,
          if_pos (by rw [size_B, hlen]; omega), dashB, append_B, if_pos (by rw [size_B, size_B, List.length_append, hlen, List.length_singleton]; omega), append_B, w64s h1 (by omega)]
theorem rshow_l (w : List UInt8) (hw : w.length ≤ 1048576) (ps : List Int) (hn : ps.length ≤ 17592186044416) : ∀ (d i : Nat), i + d = ps.length → ∀ (acc : List UInt8) (fr : Nat), acc.length ≤ 2 * fr → fr ≤ w.length →
    Ev (fun k => frisketref09_Show.l0 k (B w) ps (B acc) (fr : Int) (i : Int)) (pB (showR w acc fr (ps.drop i)))
  | 0, i, hi, acc, fr, ha, hf => by
    have e : ps.drop i = [] := List.drop_eq_nil_of_le (by omega)
    refine Ev.step (f := fun _ => some (pB (showR w acc fr (ps.drop i)))) (fun k => ?_) (Ev.now _)
    rw [frisketref09_Show.l0, if_neg (by omega), if_pos (by omega), if_pos (by rw [size_B]; omega), end_B, if_pos (by rw [size_B, size_B, List.length_drop]; omega), append_B, e]
    rfl
  | d + 1, i, hi, acc, fr, ha, hf => by
    have h1 : i < ps.length := by omega
    rw [List.drop_eq_getElem_cons h1, showR]
    by_cases h2 : ps[i] ≤ (fr : Int)
    · rw [if_pos (.inl h2)]
      refine Ev.step (f := fun _ => some (pB ([], 1))) (fun k => ?_) (Ev.now _)
      rw [frisketref09_Show.l0, if_pos (by omega), if_pos (by omega), rd_at ps i h1, if_pos h2]
      rfl
    · by_cases h3 : ps[i] ≥ (w.length : Int)
      · rw [if_pos (.inr h3)]
        refine Ev.step (f := fun _ => some (pB ([], 1))) (fun k => ?_) (Ev.now _)
        rw [frisketref09_Show.l0, if_pos (by omega), if_pos (by omega), rd_at ps i h1, if_neg h2, if_pos (by rw [size_B]; exact h3)]
        rfl
      · rw [if_neg (by omega)]
        obtain ⟨p, e⟩ : ∃ p : Nat, ps[i] = (p : Int) := ⟨ps[i].toNat, by omega⟩
        rw [e] at h2 h3 ⊢
        have hlen : ((w.drop fr).take (p - fr)).length = p - fr := by rw [List.length_take, List.length_drop]; omega
        rw [show ((p : Int)).toNat = p from Int.toNat_natCast p]
        refine Ev.step (fun k => ?_) (rshow_l w hw ps hn d (i + 1) (by omega) (acc ++ ((w.drop fr).take (p - fr) ++ [45])) p (by rw [List.length_append, List.length_append, hlen, List.length_singleton]; omega) (by omega))
        rw [frisketref09_Show.l0, if_pos (by omega), if_pos (by omega), rd_at ps i h1, e, if_neg h2, if_neg (by rw [size_B]; exact h3), if_pos (by omega), if_pos (by omega), if_pos (by rw [size_B]; omega), cut_B,
          if_pos (by rw [size_B, hlen]; omega), dashB, append_B, if_pos (by rw [size_B, size_B, List.length_append, hlen, List.length_singleton]; omega), append_B, w64s h1 (by omega)]
theorem low_word (w : List UInt8) (hw : w.length ≤ 1048576) : ∃ t, hyphen_low.f (B w) = some (t, wordS w) ∧ (wordS w = true → t = B (lowS w)) := by
  rw [low_f w (by omega)]
  unfold wordS
  by_cases h : (w.all fun c => smallB c || greatB c) = true
  · rw [if_pos h, h, Bool.true_and]
    exact ⟨_, rfl, fun _ => rfl⟩
  · have h' := Bool.eq_false_iff.2 h
    rw [if_neg h, h', Bool.false_and]
    exact ⟨_, rfl, fun h => by cases h⟩
theorem show_f (w : List UInt8) (hw : w.length ≤ 1048576) (ps : List Int) (hn : ps.length ≤ 17592186044416) : Ev (fun k => hyphen_Show.f k (B w) ps) (pB (showS w ps)) := by
  obtain ⟨t, e, _⟩ := low_word w hw
  unfold showS
  by_cases h : wordS w = true
  · rw [if_pos h]
    refine Ev.congr (fun k => ?_) (show_l w hw ps hn ps.length 0 (by omega) [] 0 (by simp) (by omega))
    rw [hyphen_Show.f, e, Option.bind_some, if_pos h]
    rfl
  · rw [if_neg h]
    refine Ev.congr (f := fun _ => some (pB ([], 1))) (fun k => ?_) (Ev.now _)
    rw [hyphen_Show.f, e, Option.bind_some, if_neg h]
    rfl
theorem rshow_f (w : List UInt8) (hw : w.length ≤ 1048576) (ps : List Int) (hn : ps.length ≤ 17592186044416) : Ev (fun k => frisketref09_Show.f k (B w) ps) (pB (showS w ps)) := by
  refine Ev.bind (f := fun k (t423 : Bool) => if t423 = true then (frisketref09_Show.l0 k (B w) ps (⟨#[]⟩ : ByteArray) 0 0) else (some ((⟨#[]⟩ : ByteArray), 1))) (word_f w (by omega)) ?_
  unfold showS
  by_cases h : wordS w = true
  · rw [if_pos h]
    refine Ev.congr (fun k => ?_) (rshow_l w hw ps hn ps.length 0 (by omega) [] 0 (by simp) (by omega))
    rw [if_pos h]
    rfl
  · rw [if_neg h]
    refine Ev.congr (f := fun _ => some (pB ([], 1))) (fun k => ?_) (Ev.now _)
    rw [if_neg h]
    rfl
end Go.Proofs.YtmjglgbkigjfkaaDoor.Pure
