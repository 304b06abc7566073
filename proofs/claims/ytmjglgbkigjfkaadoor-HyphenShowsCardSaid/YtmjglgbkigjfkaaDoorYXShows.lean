/- Layer 9 (hyphen), the plain law of HyphenShows. -/
import Derived.Test.YtmjglgbkigjfkaaDoorYXRead
import Derived.Test.YtmjglgbkigjfkaaDoorYQ4
import Derived.Test.YtmjglgbkigjfkaaDoorYa0
import Derived.Test.YtmjglgbkigjfkaaDoorYa10
import Derived.Test.YtmjglgbkigjfkaaDoorYa30
import Derived.Test.YtmjglgbkigjfkaaDoorYa31
import Derived.Test.YtmjglgbkigjfkaaDoorYa32
import Derived.Test.YtmjglgbkigjfkaaDoorYa33
import Derived.Test.YtmjglgbkigjfkaaDoorYa34
set_option linter.unusedVariables false
set_option linter.unusedSimpArgs false
namespace Go.Proofs.YtmjglgbkigjfkaaDoor.Pure
open Go.RowKit Go.Proofs.YtmjglgbkigjfkaaDoor Go.Proofs.YtmjglgbkigjfkaaDoor.Xa Go.Proofs.YtmjglgbkigjfkaaDoorW.PrintWords Go.Proofs.YtmjglgbkigjfkaaDoorW.PrintLast Go.Proofs.YtmjglgbkigjfkaaDoorW.PrintMore
theorem dp_length : ∀ (l : List UInt8) (n : Nat), (dp l n).length ≤ l.length
  | [], _ => by simp [dp]
  | c :: t, n => by
    rw [dp, List.length_cons]
    split
    · have := dp_length t n
      rw [List.length_cons]
      omega
    · have := dp_length t (n + 1)
      omega
def dpI (l : List UInt8) (n : Nat) : List Int := (dp l n).map fun x : Nat => (x : Int)
theorem read_end (l : List UInt8) (hn : l.length ≤ 1048576) (hw : wordS (nd l) = true) :
    Ev (fun k => (hyphen_Show.f k (B (nd l)) (dpI l 0)).bind fun bt434 => (if bt434.2 = 0 then (if bt434.1.toList = (B l).toList then (if (B (lowS (nd l))).toList = ([] : List UInt8) then (some ((⟨#[]⟩ : ByteArray), ([] : List Int), (4 : Int))) else (some (B (nd l), dpI l 0, 0))) else (some ((⟨#[]⟩ : ByteArray), ([] : List Int), 4))) else (some ((⟨#[]⟩ : ByteArray), ([] : List Int), 4)))) (rB (readS l)) := by
  have hp : (dpI l 0).length ≤ 17592186044416 := by
    have := dp_length l 0
    rw [dpI, List.length_map]
    omega
  have hnl := nd_length l
  refine Ev.bind (f := fun _ (bt434 : ByteArray × Int) => if bt434.2 = 0 then (if bt434.1.toList = (B l).toList then (if (B (lowS (nd l))).toList = ([] : List UInt8) then (some ((⟨#[]⟩ : ByteArray), ([] : List Int), (4 : Int))) else (some (B (nd l), dpI l 0, 0))) else (some ((⟨#[]⟩ : ByteArray), ([] : List Int), 4))) else (some ((⟨#[]⟩ : ByteArray), ([] : List Int), 4))) (show_f (nd l) (by omega) (dpI l 0) hp) (Ev.congr (f := fun _ => some (rB (readS l))) (fun k => ?_) (Ev.now _))
  have hl : ¬ (B (lowS (nd l))).toList = ([] : List UInt8) := by
    rw [toList_B]
    intro e
    have := lowS_length (nd l)
    rw [e] at this
    unfold wordS at hw
    rw [Bool.and_eq_true, decide_eq_true_eq] at hw
    have := hw.2.1
    simp at *
    omega
  have e : showS (nd l) (dpI l 0) = if okT false l = true then (l, 0) else ([], 1) := by
    rw [showS, if_pos hw]
    exact show_nd l
  unfold readS
  rw [e, exc_low, hw, Bool.true_and]
  by_cases h : okT false l = true
  · rw [if_pos h, if_pos h]
    exact (if_pos rfl).trans ((if_pos rfl).trans (if_neg hl))
  · rw [if_neg h, if_neg h]
    exact if_neg (by decide)
theorem hread_l (l : List UInt8) (hn : l.length ≤ 1048576) (hw : wordS (nd l) = true) : ∀ (d i : Nat), i + d = l.length → ∀ (pts : List Int) (n : Nat), pts ++ dpI (l.drop i) n = dpI l 0 → n ≤ i → pts.length ≤ i →
    Ev (fun k => hyphen_Read.l0 k (B l) (B (nd l)) (B (lowS (nd l))) pts (n : Int) (l.length : Int) (i : Int)) (rB (readS l))
  | 0, i, hi, pts, n, hp, h1, h2 => by
    have e : l.drop i = [] := List.drop_eq_nil_of_le (by omega)
    have ep : pts = dpI l 0 := by
      rw [e] at hp
      rw [← hp]
      exact (List.append_nil _).symm
    subst ep
    refine Ev.step (fun k => ?_) (read_end l hn hw)
    rw [hyphen_Read.l0, if_neg (by omega)]
  | d + 1, i, hi, pts, n, hp, h1, h2 => by
    have hlt : i < l.length := by omega
    have hd := List.drop_eq_getElem_cons hlt
    by_cases h : l[i] = 45
    · have ep : (pts ++ [(n : Int)]) ++ dpI (l.drop (i + 1)) n = dpI l 0 := by
        rw [← hp, hd, dpI, dpI, dp, if_pos h, List.map_cons, List.append_assoc]
        rfl
      refine Ev.step (fun k => ?_) (hread_l l hn hw d (i + 1) (by omega) (pts ++ [(n : Int)]) n ep (by omega) (by rw [List.length_append, List.length_singleton]; omega))
      rw [hyphen_Read.l0, if_pos (by omega), if_pos (by omega), if_pos (by rw [size_B]; omega), bt_B l i hlt, if_pos (by rw [h]; rfl), if_pos (by omega), w64s hlt (by omega)]
    · have ep : pts ++ dpI (l.drop (i + 1)) (n + 1) = dpI l 0 := by
        rw [← hp, hd, dpI, dpI, dp, if_neg h]
      refine Ev.step (fun k => ?_) (hread_l l hn hw d (i + 1) (by omega) pts (n + 1) ep (by omega) (by omega))
      rw [hyphen_Read.l0, if_pos (by omega), if_pos (by omega), if_pos (by rw [size_B]; omega), bt_B l i hlt, if_neg (fun e => h ((eq45 _).1 e)), w64s hlt (by omega), w64s (i := n) (n := 1048577) (by omega) (by omega)]
theorem hread_j (l : List UInt8) (hn : l.length ≤ 1048576) (t : ByteArray) (b : Bool) (h1 : b = true → readS l = ([], [], 4)) (h2 : b = false → wordS (nd l) = true ∧ t = B (lowS (nd l))) :
    Ev (fun k => hyphen_Read.j0 k (B l) (B (nd l)) t b) (rB (readS l)) := by
  cases b with
  | true =>
    refine Ev.step (f := fun _ => some (rB (readS l))) (fun k => ?_) (Ev.now _)
    rw [hyphen_Read.j0, if_pos rfl, h1 rfl]
    rfl
  | false =>
    obtain ⟨hw, rfl⟩ := h2 rfl
    refine Ev.step (fun k => ?_) (hread_l l hn hw l.length 0 (by omega) [] 0 rfl (by omega) (by simp))
    rw [hyphen_Read.j0, if_neg Bool.false_ne_true, size_B]
    rfl
theorem hread_f (l : List UInt8) (hn : l.length ≤ 1048576) : Ev (fun k => hyphen_Read.f k (B l)) (rB (readS l)) := by
  have hnl := nd_length l
  obtain ⟨t, e, ht⟩ := low_word (nd l) (by omega)
  by_cases hw : wordS (nd l) = true
  · refine Ev.congr (fun k => ?_) (hread_j l hn t (decide ((l.length : Int) > 120)) (fun h => ?_) (fun _ => ⟨hw, ht hw⟩))
    · rw [hyphen_Read.f, rep_f l hn, Option.bind_some, e, Option.bind_some, if_pos hw, size_B]
    · have h120 := of_decide_eq_true h
      unfold readS
      rw [if_neg]
      rw [exc_low, hw, Bool.true_and]
      intro ho
      have := okT_long l false ho
      unfold wordS at hw
      rw [Bool.and_eq_true, decide_eq_true_eq] at hw
      simp at this
      omega
  · refine Ev.congr (fun k => ?_) (hread_j l hn t true (fun _ => ?_) (fun h => by cases h))
    · rw [hyphen_Read.f, rep_f l hn, Option.bind_some, e, Option.bind_some, if_neg hw]
    · unfold readS
      rw [if_neg]
      rw [exc_low, Bool.eq_false_iff.2 hw, Bool.false_and]
      exact Bool.false_ne_true
theorem readS_length (l : List UInt8) (hn : l.length ≤ 1048576) : (readS l).2.1.length ≤ 17592186044416 := by
  unfold readS
  have := dp_length l 0
  split
  · dsimp only
    rw [List.length_map]
    omega
  · exact Nat.zero_le _
theorem shows_ev (w : List UInt8) (ps : List Int) : Ev (fun k => frisketlaw09_HyphenShows.f k (B w) ps) true := by
  have hs : ∀ x1, Ev (fun k => frisketlaw09_HyphenShows.j0 k (B w) x1 true) true := fun x1 => by
    refine Ev.step (f := fun k => (frisketlaw09_sane.f k).bind fun t => (some t)) (fun k => ?_) (Ev.bind (f := fun _ (t : Bool) => some t) sane_ev (Ev.now true))
    rw [frisketlaw09_HyphenShows.j0, if_pos rfl]
  by_cases h1 : w.length > 200
  · refine Ev.congr (fun k => ?_) (hs ps)
    rw [frisketlaw09_HyphenShows.f, if_pos (by rw [size_B]; omega)]
  · by_cases h2 : ps.length > 200
    · refine Ev.congr (fun k => ?_) (hs ps)
      rw [frisketlaw09_HyphenShows.f, if_neg (by rw [size_B]; omega), decide_eq_true (by omega)]
    · have h3 : Ev (fun k => frisketlaw09_HyphenShows.j1 k (B w) false) true := by
        refine Ev.step (f := fun k => (hyphen_Read.f k (B w)).bind fun bt447 => ((frisketref09_Read.f k (B w)).bind fun bt452 => (if bt447.1.toList = bt452.1.toList then ((frisketlaw09_numbers.f k bt447.2.1 bt452.2.1).bind fun t457 => (if t457 = true then (if bt447.2.2 = bt452.2.2 then ((frisketlaw09_sane.f k).bind fun t458 => (some t458)) else (some false)) else (some false))) else (some false)))) (fun k => ?_) ?_
        · rw [frisketlaw09_HyphenShows.j1, if_neg Bool.false_ne_true]
        · refine Ev.bind (hread_f w (by omega)) (Ev.bind (rread_f w (by omega)) (Ev.congr (fun k => if_pos rfl) ?_))
          refine Ev.bind (numbers_same _ (readS_length w (by omega))) (Ev.congr (fun k => (if_pos rfl).trans (if_pos rfl)) ?_)
          exact Ev.bind (f := fun _ (t : Bool) => some t) sane_ev (Ev.now true)
      have h4 : Ev (fun k => frisketlaw09_HyphenShows.j0 k (B w) ps false) true := by
        refine Ev.step (f := fun k => (hyphen_Show.f k (B w) ps).bind fun bt443 => ((frisketref09_Show.f k (B w) ps).bind fun bt445 => (if bt443.1.toList = bt445.1.toList then (frisketlaw09_HyphenShows.j1 k (B w) (bt443.2 != bt445.2)) else (frisketlaw09_HyphenShows.j1 k (B w) true)))) (fun k => ?_) ?_
        · rw [frisketlaw09_HyphenShows.j0, if_neg Bool.false_ne_true]
        · refine Ev.bind (show_f w (by omega) ps (by omega)) (Ev.bind (rshow_f w (by omega) ps (by omega)) (Ev.congr (fun k => ?_) h3))
          rw [if_pos rfl]
          congr 1
          simp
      refine Ev.congr (fun k => ?_) h4
      rw [frisketlaw09_HyphenShows.f, if_neg (by rw [size_B]; omega), decide_eq_false (by omega)]
theorem HyphenShows_ev (s : ByteArray) (ps : List Int) : ∃ k, frisketlaw09_HyphenShows.f k s ps = some true := by
  rw [B_of s]
  exact (shows_ev _ ps).rounds
end Go.Proofs.YtmjglgbkigjfkaaDoor.Pure
