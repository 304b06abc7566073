/- Layer 9 (hyphen), the plain law of HyphenRaw. -/
import Derived.Test.YtmjglgbkigjfkaaDoorYQ4
import Derived.Test.YtmjglgbkigjfkaaDoorYa0
import Derived.Test.YtmjglgbkigjfkaaDoorYa10
import Derived.Test.YtmjglgbkigjfkaaDoorYa17
import Derived.Test.YtmjglgbkigjfkaaDoorYa22
import Derived.Test.YtmjglgbkigjfkaaDoorYa28
import Derived.Test.YtmjglgbkigjfkaaDoorYa29
set_option linter.unusedVariables false
set_option linter.unusedSimpArgs false
namespace Go.Proofs.YtmjglgbkigjfkaaDoor.Pure
open Go.RowKit Go.Proofs.YtmjglgbkigjfkaaDoor Go.Proofs.YtmjglgbkigjfkaaDoor.Xa Go.Proofs.YtmjglgbkigjfkaaDoorW.PrintWords Go.Proofs.YtmjglgbkigjfkaaDoorW.PrintLast Go.Proofs.YtmjglgbkigjfkaaDoorW.PrintMore
theorem raw_l1 (w : List UInt8) (hw : w.length ≤ 1048576) (ps xs : List (List UInt8)) (hp : Short ps) (hx : Short xs) (a3 a4 : Int) : ∀ (d i : Nat), i + d = xs.length →
    Ev (fun k => frisketlaw09_HyphenRaw.l1 k (B w) (ps.map B) (xs.map B) a3 a4 (i : Int)) true
  | 0, i, hi => by
    refine Ev.step (f := fun k => (frisketlaw09_same.f k (B w) (ps.map B) (xs.map B) a3 a4).bind fun t414 => (if t414 = true then ((frisketlaw09_sane.f k).bind fun t415 => (some t415)) else (some false))) (fun k => ?_) ?_
    · rw [frisketlaw09_HyphenRaw.l1, if_neg (by rw [List.length_map]; omega)]
    · exact Ev.bind (same_ev w hw ps xs hp hx a3 a4) (Ev.congr (fun k => if_pos rfl) (Ev.bind (f := fun _ (t : Bool) => some t) sane_ev (Ev.now true)))
  | d + 1, i, hi => by
    have hlt : i < xs.length := by omega
    have hn := hx.1
    have hxi := hx.2 _ (List.getElem_mem hlt)
    have hhead : ∀ k, frisketlaw09_HyphenRaw.l1 (k + 1) (B w) (ps.map B) (xs.map B) a3 a4 (i : Int) = (frisketref09_Exception.f k (B xs[i])).bind fun t419 => (if (excB xs[i] != t419) = true then (some false) else (frisketlaw09_HyphenRaw.l1 k (B w) (ps.map B) (xs.map B) a3 a4 ((i + 1 : Nat) : Int))) := by
      intro k
      rw [frisketlaw09_HyphenRaw.l1, if_pos (by rw [List.length_map]; omega), if_pos (by omega), rdOf_at xs i hlt, exc_f _ hxi, Option.bind_some, w64s hlt (by omega)]
    refine Ev.step hhead (Ev.bind (rexc_f _ hxi) (Ev.congr (fun k => ?_) (raw_l1 w hw ps xs hp hx a3 a4 d (i + 1) (by omega))))
    rw [if_neg (by cases excB xs[i] <;> decide)]
theorem raw_l0 (w : List UInt8) (hw : w.length ≤ 1048576) (ps xs : List (List UInt8)) (hp : Short ps) (hx : Short xs) (a3 a4 : Int) : ∀ (d i : Nat), i + d = ps.length →
    Ev (fun k => frisketlaw09_HyphenRaw.l0 k (B w) (ps.map B) (xs.map B) a3 a4 (i : Int)) true
  | 0, i, hi => by
    refine Ev.step (fun k => ?_) (raw_l1 w hw ps xs hp hx a3 a4 xs.length 0 (by omega))
    rw [frisketlaw09_HyphenRaw.l0, if_neg (by rw [List.length_map]; omega)]
    rfl
  | d + 1, i, hi => by
    have hlt : i < ps.length := by omega
    have hn := hp.1
    have hpi := hp.2 _ (List.getElem_mem hlt)
    have hhead : ∀ k, frisketlaw09_HyphenRaw.l0 (k + 1) (B w) (ps.map B) (xs.map B) a3 a4 (i : Int) = (hyphen_Pattern.f k (B ps[i])).bind fun t411 => ((frisketref09_Pattern.f k (B ps[i])).bind fun t413 => (if (t411 != t413) = true then (some false) else (frisketlaw09_HyphenRaw.l0 k (B w) (ps.map B) (xs.map B) a3 a4 ((i + 1 : Nat) : Int)))) := by
      intro k
      rw [frisketlaw09_HyphenRaw.l0, if_pos (by rw [List.length_map]; omega), if_pos (by omega), rdOf_at ps i hlt, w64s hlt (by omega)]
    refine Ev.step hhead (Ev.bind (pattern_f _ hpi) (Ev.bind (rpattern_f _ hpi) (Ev.congr (fun k => ?_) (raw_l0 w hw ps xs hp hx a3 a4 d (i + 1) (by omega)))))
    rw [if_neg (by cases (patOf ps[i]).isSome <;> decide)]
theorem HyphenRaw_ev (w : List UInt8) (hw : w.length ≤ 1048576) (ps xs : List (List UInt8)) (hp : Short ps) (hx : Short xs) (a3 a4 : Int) :
    ∃ k, frisketlaw09_HyphenRaw.f k (B w) (ps.map B) (xs.map B) a3 a4 = some true := by
  have hs : Ev (fun k => frisketlaw09_HyphenRaw.j0 k (B w) (ps.map B) (xs.map B) a3 a4 true) true := by
    refine Ev.step (f := fun k => (frisketlaw09_sane.f k).bind fun t409 => (some t409)) (fun k => ?_) (Ev.bind (f := fun _ (t : Bool) => some t) sane_ev (Ev.now true))
    rw [frisketlaw09_HyphenRaw.j0, if_pos rfl]
  have hr : Ev (fun k => frisketlaw09_HyphenRaw.j0 k (B w) (ps.map B) (xs.map B) a3 a4 false) true := by
    refine Ev.step (fun k => ?_) (raw_l0 w hw ps xs hp hx a3 a4 ps.length 0 (by omega))
    rw [frisketlaw09_HyphenRaw.j0, if_neg Bool.false_ne_true]
    rfl
  have h : Ev (fun k => frisketlaw09_HyphenRaw.f k (B w) (ps.map B) (xs.map B) a3 a4) true := by
    by_cases h1 : ps.length > 60
    · refine Ev.congr (fun k => ?_) hs
      rw [frisketlaw09_HyphenRaw.f, if_pos (by rw [List.length_map]; omega)]
    · by_cases h2 : xs.length > 60
      · refine Ev.congr (fun k => ?_) hs
        rw [frisketlaw09_HyphenRaw.f, if_neg (by rw [List.length_map]; omega), decide_eq_true (by rw [List.length_map]; omega)]
      · refine Ev.congr (fun k => ?_) hr
        rw [frisketlaw09_HyphenRaw.f, if_neg (by rw [List.length_map]; omega), decide_eq_false (by rw [List.length_map]; omega)]
  exact h.rounds
end Go.Proofs.YtmjglgbkigjfkaaDoor.Pure
