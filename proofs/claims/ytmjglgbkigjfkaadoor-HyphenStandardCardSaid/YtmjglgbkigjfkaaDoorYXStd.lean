/- Layer 9 (hyphen), the plain law of HyphenStandard. -/
import Derived.Test.YtmjglgbkigjfkaaDoorYQ4
import Derived.Test.YtmjglgbkigjfkaaDoorYXWd
import Derived.Test.YtmjglgbkigjfkaaDoorYa0
import Derived.Test.YtmjglgbkigjfkaaDoorYa1
import Derived.Test.YtmjglgbkigjfkaaDoorYa10
import Derived.Test.YtmjglgbkigjfkaaDoorYa22
import Derived.Test.YtmjglgbkigjfkaaDoorYa24
import Derived.Test.YtmjglgbkigjfkaaDoorYa25
import Derived.Test.YtmjglgbkigjfkaaDoorYa26
set_option linter.unusedVariables false
set_option linter.unusedSimpArgs false
namespace Go.Proofs.YtmjglgbkigjfkaaDoor.Pure
open Go.RowKit Go.Proofs.YtmjglgbkigjfkaaDoor Go.Proofs.YtmjglgbkigjfkaaDoor.Xa Go.Proofs.YtmjglgbkigjfkaaDoorW.PrintWords Go.Proofs.YtmjglgbkigjfkaaDoorW.PrintLast Go.Proofs.YtmjglgbkigjfkaaDoorW.PrintMore
theorem rstd_ev : Ev (fun k => frisketref09_Standard.f k) stdList :=
  Ev.of (fun k => frisketref09_Standard.mono k) (k := 200) (by decide +kernel)
theorem texts_l0 (a : List ByteArray) (hn : a.length ≤ 1048576) : ∀ (d i : Nat), i + d = a.length → Ev (fun k => frisketlaw09_texts.l0 k a a (i : Int)) true
  | 0, i, hi => by
    refine Ev.step (f := fun _ => some true) (fun k => ?_) (Ev.now _)
    rw [frisketlaw09_texts.l0, if_neg (by omega)]
  | d + 1, i, hi => by
    have h1 : i < a.length := by omega
    refine Ev.step (fun k => ?_) (texts_l0 a hn d (i + 1) (by omega))
    rw [frisketlaw09_texts.l0, if_pos (by omega), if_pos (by omega), if_pos (by omega), if_pos rfl, w64s h1 (by omega)]
theorem texts_same (a : List ByteArray) (hn : a.length ≤ 1048576) : Ev (fun k => frisketlaw09_texts.f k a a) true := by
  refine Ev.congr (fun k => ?_) (texts_l0 a hn a.length 0 (by omega))
  rw [frisketlaw09_texts.f, if_pos rfl]
  rfl
theorem stdList_length : stdList.length ≤ 1048576 := by rw [std_B, List.length_map]; exact std_short.1
theorem HyphenStandard_ev (l : List Int) (a b : Int) : ∃ k, frisketlaw09_HyphenStandard.f k l a b = some true := by
  have hw := wordL_length l
  have h : Ev (fun k => frisketlaw09_HyphenStandard.f k l a b) true := by
    refine Ev.bind (g := fun _ => some stdList) (f := fun k t361 => (frisketref09_Standard.f k).bind fun t364 => ((frisketlaw09_texts.f k t361 t364).bind fun t367 => (if t367 = true then ((frisketlaw09_Word.f k l).bind fun t368 => ((frisketlaw09_same.f k t368 t361 ([] : List ByteArray) (wrap64 (1 + (wrap64 (Int.tmod (IntKind.u64.wrap (a)) 10)))) (wrap64 (1 + (wrap64 (Int.tmod (IntKind.u64.wrap (b)) 10))))).bind fun t369 => (if t369 = true then ((frisketlaw09_sane.f k).bind fun t370 => (some t370)) else (some false)))) else (some false)))) (Ev.now stdList) ?_
    refine Ev.bind rstd_ev (Ev.bind (texts_same _ stdList_length) (Ev.congr (fun k => if_pos rfl) (Ev.bind (word_ev l) ?_)))
    exact Ev.bind (same_ev (wordL l) (by omega) stdPs [] std_short short_nil _ _) (Ev.congr (fun k => if_pos rfl) (Ev.bind (f := fun _ (t : Bool) => some t) sane_ev (Ev.now true)))
  exact h.rounds
end Go.Proofs.YtmjglgbkigjfkaaDoor.Pure
