/- Layer 9 (hyphen), the plain law, part 8: the program's and the reference's Points answer alike. -/
import Derived.Test.YtmjglgbkigjfkaaDoorYQ3
import Derived.Test.YtmjglgbkigjfkaaDoorYa0
import Derived.Test.YtmjglgbkigjfkaaDoorYa5
import Derived.Test.YtmjglgbkigjfkaaDoorYa7
import Derived.Test.YtmjglgbkigjfkaaDoorYa8
import Derived.Test.YtmjglgbkigjfkaaDoorYa9
import Derived.Test.YtmjglgbkigjfkaaDoorYa14
import Derived.Test.YtmjglgbkigjfkaaDoorYa15
import Derived.Test.YtmjglgbkigjfkaaDoorYa19
import Derived.Test.YtmjglgbkigjfkaaDoorYa20
import Derived.Test.YtmjglgbkigjfkaaDoorYa10
import Derived.Test.YtmjglgbkigjfkaaDoorYa12
import Derived.Test.YtmjglgbkigjfkaaDoorYa21
import Derived.Test.YtmjglgbkigjfkaaDoorYa22
set_option linter.unusedVariables false
set_option linter.unusedSimpArgs false
namespace Go.Proofs.YtmjglgbkigjfkaaDoor.Pure
open Go.RowKit Go.Proofs.YtmjglgbkigjfkaaDoor Go.Proofs.YtmjglgbkigjfkaaDoor.Xa Go.Proofs.YtmjglgbkigjfkaaDoorW.PrintWords Go.Proofs.YtmjglgbkigjfkaaDoorW.PrintLast Go.Proofs.YtmjglgbkigjfkaaDoorW.PrintMore
def ints (l : List Nat) : List Int := l.map fun x : Nat => (x : Int)
def oddI (x : Int) : Bool := decide (Int.tmod x 2 = 1)
/-- The odd places inside a word of n letters. -/
def odds (all : List Int) (n : Nat) : List Nat := (List.range' 1 (n - 1)).filter fun i => oddI (all.getD i 0)
def far (b h n : Nat) (i : Nat) : Bool := decide (b ≤ i ∧ i + h ≤ n)
/-- What exceptions leave of the places. -/
def found (w : List UInt8) : List (List UInt8) → List Nat → List Nat
 | [], F => F
 | x :: xs, F => found w xs (if nd x = w then dp x 0 else F)
def pointsR (w : List UInt8) (ps xs : List (List UInt8)) (a3 a4 : Int) : List Int × Int :=
 if chk ps xs = 0 then
  (if wordS w = true ∧ (1 ≤ a3 ∧ a3 ≤ 10) ∧ 1 ≤ a4 ∧ a4 ≤ 10 then
   (ints ((found (lowS w) xs (odds (valS (lowS w) ((patsOf ps).getD [])) w.length)).filter (far a3.toNat a4.toNat w.length)), 0)
  else ([], 1))
 else ([], chk ps xs)
theorem ints_append (a b : List Nat) : ints (a ++ b) = ints a ++ ints b := List.map_append ..
theorem range_skip (P : Nat → Bool) (n : Nat) : ∀ (d a b : Nat), a + d = b → (∀ i, a ≤ i → i < b → P i = false) → (List.range' a (n - a)).filter P = (List.range' b (n - b)).filter P
 | 0, a, b, h, hP => by rw [show a = b by omega]
 | d + 1, a, b, h, hP => by
  have ih := range_skip P n d (a + 1) b (by omega) (fun i h1 h2 => hP i (by omega) h2)
  by_cases ha : a < n
  ·rw [show n - a = (n - (a + 1)) + 1 by omega, List.range'_succ, List.filter_cons, hP a (Nat.le_refl _) (by omega), if_neg Bool.false_ne_true]
   exact ih
  ·rw [show n - a = 0 by omega, show n - b = 0 by omega]; rfl
theorem range_none (P : Nat → Bool) (a n : Nat) (hP : ∀ i, a ≤ i → P i = false) : (List.range' a n).filter P = [] := by
 rw [List.filter_eq_nil_iff]
 intro i hi
 rw [hP i (List.mem_range'_1.1 hi).1]
 exact Bool.false_ne_true
section
variable (w : List UInt8) (b h : Nat) (hw : w.length ≤ 60) (hb : 1 ≤ b ∧ b ≤ 10) (hh : 1 ≤ h ∧ h ≤ 10)
include hw hb hh
theorem pts_l2 (all : List Int) (hl : all.length = w.length + 1) : ∀ (d a : Nat) (acc : List Nat), d = w.length + 1 - a → b ≤ a → a ≤ 100 → acc.length ≤ a →
  Ev (fun k => hyphen_Points.l2 k (h : Int) (B w) all (ints acc) (a : Int)) (ints (acc ++ (List.range' a (w.length - a)).filter fun i => far b h w.length i && oddI (all.getD i 0)), 0)
 | d, a, acc, hd, ha, ha2, hacc => by
  have e : wrap64 (((B w).size : Int) - (h : Int)) = (w.length : Int) - (h : Int) := by rw [size_B, w64 (by omega) (by omega)]
  by_cases hc : a + h ≤ w.length
  ·have ho : Int.tmod (rd all (a : Int)) 2 = 1 ↔ oddI (all.getD a 0) = true := by rw [mul_rd]; unfold oddI; rw [decide_eq_true_eq]
   have hfar : far b h w.length a = true := decide_eq_true ⟨ha, hc⟩
   rw [show w.length - a = (w.length - (a + 1)) + 1 by omega, List.range'_succ, List.filter_cons, hfar, Bool.true_and]
   match d, hd with
   | 0, hd => omega
   | d' + 1, hd =>
    by_cases hodd : oddI (all.getD a 0) = true
    ·rw [if_pos hodd]
     have ih := pts_l2 all hl d' (a + 1) (acc ++ [a]) (by omega) (by omega) (by omega) (by rw [List.length_append, List.length_singleton]; omega)
     rw [List.append_assoc, List.singleton_append, ints_append] at ih
     refine Ev.step (fun k => ?_) ih
     rw [hyphen_Points.l2, e, if_pos (by omega), if_pos (by omega), if_pos (by omega), if_pos (ho.2 hodd), if_pos (by unfold ints; rw [List.length_map]; omega), w64 (x := (a : Int) + 1) (by omega) (by omega)]
     rfl
    ·rw [if_neg hodd]
     have ih := pts_l2 all hl d' (a + 1) acc (by omega) (by omega) (by omega) (by omega)
     refine Ev.step (fun k => ?_) ih
     rw [hyphen_Points.l2, e, if_pos (by omega), if_pos (by omega), if_pos (by omega), if_neg (fun h' => hodd (ho.1 h')), w64 (x := (a : Int) + 1) (by omega) (by omega)]
     rfl
  ·rw [range_none _ a _ (fun i hi => by rw [show far b h w.length i = false from decide_eq_false (by omega), Bool.false_and]), List.append_nil]
   refine Ev.step (f := fun _ => some _) (fun k => ?_) (Ev.now _)
   rw [hyphen_Points.l2, e, if_neg (by omega)]
theorem pts_end (all : List Int) (hl : all.length = w.length + 1) : Ev (fun k => hyphen_Points.l2 k (h : Int) (B w) all [] (b : Int)) (ints ((odds all w.length).filter (far b h w.length)), 0) := by
 have h1 := pts_l2 w b h hw hb hh all hl (w.length + 1 - b) b [] rfl (Nat.le_refl _) (by omega) (by simp)
 have e : (odds all w.length).filter (far b h w.length) = (List.range' b (w.length - b)).filter fun i => far b h w.length i && oddI (all.getD i 0) := by
  unfold odds
  rw [List.filter_filter]
  exact range_skip _ w.length (b - 1) 1 b (by omega) (fun i h1 h2 => by rw [show far b h w.length i = false from decide_eq_false (by omega), Bool.false_and])
 rw [e]
 exact h1
omit hw hb hh in
theorem pts_l1 (X : List ByteArray) (n : Int) (idx : Int) (x : List UInt8) (hx : x.length ≤ 1048576) (r : List Int × Int) : ∀ (d i a : Nat) (all : List Int), i + d = x.length → a ≤ i → all.length = w.length + 1 → a + (nd (x.drop i)).length = w.length →
  Ev (fun k => hyphen_Points.l0 k (b : Int) (h : Int) (B w) (mk (x.drop i) a all) X n (wrap64 (idx + 1))) r → Ev (fun k => hyphen_Points.l1 k (b : Int) (h : Int) (B w) all (B x) (a : Int) X n idx (x.length : Int) (i : Int)) r
 | 0, i, a, all, hi, ha, hl, hs, hr => by
  rw [List.drop_of_length_le (by omega)] at hr
  refine Ev.step (fun k => ?_) hr
  rw [hyphen_Points.l1, if_neg (by omega)]
  rfl
 | d + 1, i, a, all, hi, ha, hl, hs, hr => by
  have hlt : i < x.length := by omega
  rw [drop_at x i hlt, mk] at hr
  rw [drop_at x i hlt, nd_cons] at hs
  by_cases h45 : x[i] = 45
  ·rw [if_pos h45] at hr hs
   have ih := pts_l1 X n idx x hx r d (i + 1) a _ (by omega) (by omega) (by rw [List.length_set]; exact hl) hs hr
   refine Ev.step (fun k => ?_) ih
   rw [hyphen_Points.l1, if_pos (by omega), if_pos (by omega), if_pos (by rw [size_B]; omega), bt_B x i hlt, if_pos ((eq45 _).2 h45), if_pos (by omega), if_pos (by omega), w64s hlt (by omega), Int.toNat_natCast]
  ·rw [if_neg h45] at hr hs
   rw [List.length_cons] at hs
   have ih := pts_l1 X n idx x hx r d (i + 1) (a + 1) all (by omega) (by omega) hl (by omega) hr
   refine Ev.step (fun k => ?_) ih
   rw [hyphen_Points.l1, if_pos (by omega), if_pos (by omega), if_pos (by rw [size_B]; omega), bt_B x i hlt, if_neg (fun h => h45 ((eq45 _).1 h)), w64s hlt (by omega), w64 (x := (a : Int) + 1) (by omega) (by omega)]
   rfl
theorem pts_l0 (hw1 : 1 ≤ w.length) (xs : List (List UInt8)) (hx : Short xs) (he : xs.all excB = true) : ∀ (d i : Nat) (all : List Int) (F : List Nat), i + d = xs.length → all.length = w.length + 1 → odds all w.length = F →
  Ev (fun k => hyphen_Points.l0 k (b : Int) (h : Int) (B w) all (xs.map B) (xs.length : Int) (i : Int)) (ints ((found w (xs.drop i) F).filter (far b h w.length)), 0)
 | 0, i, all, F, hi, hl, hF => by
  rw [List.drop_of_length_le (by omega), found, ← hF]
  refine Ev.step (fun k => ?_) (pts_end w b h hw hb hh all hl)
  rw [hyphen_Points.l0, if_neg (by omega)]
 | d + 1, i, all, F, hi, hl, hF => by
  have hlt : i < xs.length := by omega
  have hn := hx.1
  have hxi := hx.2 _ (List.getElem_mem hlt)
  have hex := List.all_eq_true.1 he _ (List.getElem_mem hlt)
  rw [drop_at xs i hlt, found]
  have ew : wrap64 (((B w).size : Int) + 1) = ((w.length + 1 : Nat) : Int) := by rw [size_B, w64 (by omega) (by omega)]; omega
  by_cases hm : nd xs[i] = w
  ·rw [if_pos hm]
   have hl2 : (mk xs[i] 0 (List.replicate (w.length + 1) 0)).length = w.length + 1 := by rw [mk_length, List.length_replicate]
   have ho : odds (mk xs[i] 0 (List.replicate (w.length + 1) 0)) w.length = dp xs[i] 0 := by
    rw [← exc_dp xs[i] hex, hm]
    unfold odds
    apply List.filter_congr
    intro j hj
    have hj2 := List.mem_range'_1.1 hj
    rw [mk_at xs[i] 0 _ j (by rw [List.length_replicate]; omega)]
    by_cases hd : j ∈ dp xs[i] 0
    ·rw [if_pos hd, decide_eq_true hd]; rfl
    ·rw [if_neg hd, decide_eq_false hd]
     unfold oddI
     rw [List.getD_eq_getElem?_getD, List.getElem?_replicate_of_lt (by omega)]
     rfl
   have ih := pts_l0 hw1 xs hx he d (i + 1) _ (dp xs[i] 0) (by omega) hl2 ho
   have h3 := pts_l1 w b h (xs.map B) (xs.length : Int) (i : Int) xs[i] hxi _ xs[i].length 0 0 (List.replicate (w.length + 1) 0) (by omega) (by omega) (by rw [List.length_replicate]) (by rw [List.drop_zero, hm]; omega) (by rw [w64s hlt (by omega)]; exact ih)
   refine Ev.step (fun k => ?_) h3
   rw [hyphen_Points.l0, if_pos (by omega), if_pos (by omega), if_pos (by rw [List.length_map]; omega), rdOf_at xs i hlt, rep_f _ hxi, Option.bind_some, toList_B, toList_B, if_pos hm, ew, if_pos (by omega), if_pos (by omega), Int.toNat_natCast, size_B]
   rfl
  ·rw [if_neg hm]
   refine Ev.step (fun k => ?_) (pts_l0 hw1 xs hx he d (i + 1) all F (by omega) hl hF)
   rw [hyphen_Points.l0, if_pos (by omega), if_pos (by omega), if_pos (by rw [List.length_map]; omega), rdOf_at xs i hlt, rep_f _ hxi, Option.bind_some, toList_B, toList_B, if_neg hm, w64s hlt (by omega)]
/-! the reference's -/
omit hb hh in
theorem rpts_l2 (F : List Nat) (hF : F.length ≤ 1048576) (hF2 : ∀ f ∈ F, f ≤ 2097152) : ∀ (d i : Nat) (acc : List Nat), i + d = F.length → acc.length ≤ i →
  Ev (fun k => frisketref09_Points.l2 k (B w) (b : Int) (h : Int) (ints F) (ints acc) (i : Int)) (ints (acc ++ (F.drop i).filter (far b h w.length)), 0)
 | 0, i, acc, hi, ha => by
  rw [List.drop_of_length_le (by omega)]
  refine Ev.step (f := fun _ => some _) (fun k => ?_) (Ev.now _)
  rw [frisketref09_Points.l2, if_neg (by unfold ints; rw [List.length_map]; omega)]
  simp
 | d + 1, i, acc, hi, ha => by
  have hlt : i < F.length := by omega
  have hfi := hF2 _ (List.getElem_mem hlt)
  have er : rd (ints F) (i : Int) = (F[i] : Int) := by
   rw [mul_rd]
   unfold ints
   rw [List.getD_eq_getElem?_getD, List.getElem?_map, List.getElem?_eq_getElem hlt]
   rfl
  have hlen : (ints F).length = F.length := by unfold ints; rw [List.length_map]
  have hla : (ints acc).length = acc.length := by unfold ints; rw [List.length_map]
  rw [drop_at F i hlt, List.filter_cons]
  have ew : wrap64 (((B w).size : Int) - (F[i] : Int)) = (w.length : Int) - (F[i] : Int) := by rw [size_B, w64 (by omega) (by omega)]
  by_cases hc : b ≤ F[i] ∧ F[i] + h ≤ w.length
  ·have ih := rpts_l2 F hF hF2 d (i + 1) (acc ++ [F[i]]) (by omega) (by rw [List.length_append, List.length_singleton]; omega)
   rw [List.append_assoc, List.singleton_append, ints_append acc [F[i]]] at ih
   rw [show far b h w.length F[i] = true from decide_eq_true hc, if_pos rfl]
   refine Ev.step (fun k => ?_) ih
   rw [frisketref09_Points.l2, if_pos (by omega), if_pos (by omega), er, if_pos (by omega), ew, if_pos (by omega), if_pos (by omega), w64s hlt (by omega)]
   rfl
  ·have ih := rpts_l2 F hF hF2 d (i + 1) acc (by omega) (by omega)
   rw [show far b h w.length F[i] = false from decide_eq_false hc, if_neg Bool.false_ne_true]
   refine Ev.step (fun k => ?_) ih
   rw [frisketref09_Points.l2, if_pos (by omega), if_pos (by omega), er]
   by_cases h1 : b ≤ F[i]
   ·rw [if_pos (by omega), ew, if_neg (by omega), w64s hlt (by omega)]
   ·rw [if_neg (by omega), w64s hlt (by omega)]
omit hb hh in
theorem rpts_l1 (v : List Int) (xs : List (List UInt8)) (hx : Short xs) (hdp : ∀ x ∈ xs, ∀ f ∈ dp x 0, f ≤ 2097152) (hdl : ∀ x ∈ xs, (dp x 0).length ≤ 1048576) : ∀ (d i : Nat) (F : List Nat), i + d = xs.length → F.length ≤ 1048576 → (∀ f ∈ F, f ≤ 2097152) →
  Ev (fun k => frisketref09_Points.l1 k (B w) (xs.map B) (b : Int) (h : Int) (ints F) (i : Int)) (ints ((found w (xs.drop i) F).filter (far b h w.length)), 0)
 | 0, i, F, hi, hF, hF2 => by
  rw [List.drop_of_length_le (by omega), found]
  refine Ev.step (fun k => ?_) (rpts_l2 w b h hw F hF hF2 F.length 0 [] (by omega) (by simp))
  rw [frisketref09_Points.l1, if_neg (by rw [List.length_map]; omega)]
  rfl
 | d + 1, i, F, hi, hF, hF2 => by
  have hlt : i < xs.length := by omega
  have hn := hx.1
  have hxi := hx.2 _ (List.getElem_mem hlt)
  rw [drop_at xs i hlt, found]
  have hhead : ∀ k, frisketref09_Points.l1 (k + 1) (B w) (xs.map B) (b : Int) (h : Int) (ints F) (i : Int) = (frisketref09_bare.f k (B xs[i])).bind fun bt290 => (if bt290.1.toList = (B w).toList then (frisketref09_Points.l1 k (B w) (xs.map B) (b : Int) (h : Int) bt290.2 ((i + 1 : Nat) : Int)) else (frisketref09_Points.l1 k (B w) (xs.map B) (b : Int) (h : Int) (ints F) ((i + 1 : Nat) : Int))) := by
   intro k
   rw [frisketref09_Points.l1, if_pos (by rw [List.length_map]; omega), if_pos (by omega), rdOf_at xs i hlt, w64s hlt (by omega)]
  refine Ev.step hhead (Ev.bind (bare_f xs[i] hxi) ?_)
  by_cases hm : nd xs[i] = w
  ·rw [if_pos hm]
   have ih := rpts_l1 v xs hx hdp hdl d (i + 1) (dp xs[i] 0) (by omega) (hdl _ (List.getElem_mem hlt)) (hdp _ (List.getElem_mem hlt))
   refine Ev.congr (fun k => ?_) ih
   dsimp only
   rw [toList_B, toList_B, if_pos hm]
   rfl
  ·rw [if_neg hm]
   refine Ev.congr (fun k => ?_) (rpts_l1 v xs hx hdp hdl d (i + 1) F (by omega) hF hF2)
   dsimp only
   rw [toList_B, toList_B, if_neg hm]
omit hb hh in
theorem rpts_l0 (v : List Int) (hv : v.length = w.length + 1) (X : List ByteArray) (r : List Int × Int) : ∀ (d a : Nat) (acc : List Nat), a + d = w.length → 1 ≤ a → acc.length ≤ a →
  Ev (fun k => frisketref09_Points.l1 k (B w) X (b : Int) (h : Int) (ints (acc ++ (List.range' a (w.length - a)).filter fun i => oddI (v.getD i 0))) 0) r → Ev (fun k => frisketref09_Points.l0 k (B w) X (b : Int) (h : Int) v (ints acc) (a : Int)) r
 | 0, a, acc, ha, h1, hacc, hr => by
  rw [show w.length - a = 0 by omega] at hr
  refine Ev.step (fun k => ?_) hr
  rw [frisketref09_Points.l0, if_neg (by rw [size_B]; omega)]
  simp
 | d + 1, a, acc, ha, h1, hacc, hr => by
  have ho : Int.tmod (rd v (a : Int)) 2 = 1 ↔ oddI (v.getD a 0) = true := by rw [mul_rd]; unfold oddI; rw [decide_eq_true_eq]
  rw [show w.length - a = (w.length - (a + 1)) + 1 by omega, List.range'_succ, List.filter_cons] at hr
  have hlt : a < w.length := by omega
  by_cases hodd : oddI (v.getD a 0) = true
  ·rw [if_pos hodd] at hr
   have hr2 : Ev (fun k => frisketref09_Points.l1 k (B w) X (b : Int) (h : Int) (ints ((acc ++ [a]) ++ (List.range' (a + 1) (w.length - (a + 1))).filter fun i => oddI (v.getD i 0))) 0) r := by
    rw [List.append_assoc, List.singleton_append]; exact hr
   have ih := rpts_l0 v hv X r d (a + 1) (acc ++ [a]) (by omega) (by omega) (by rw [List.length_append, List.length_singleton]; omega) hr2
   rw [ints_append] at ih
   refine Ev.step (fun k => ?_) ih
   rw [frisketref09_Points.l0, if_pos (by rw [size_B]; omega), if_pos (by omega), if_pos (by omega), if_pos (ho.2 hodd), if_pos (by unfold ints; rw [List.length_map]; omega), w64s hlt (by omega)]
   rfl
  ·rw [if_neg hodd] at hr
   have ih := rpts_l0 v hv X r d (a + 1) acc (by omega) (by omega) (by omega) hr
   refine Ev.step (fun k => ?_) ih
   rw [frisketref09_Points.l0, if_pos (by rw [size_B]; omega), if_pos (by omega), if_pos (by omega), if_neg (fun h' => hodd (ho.1 h')), w64s hlt (by omega)]
end
theorem dp_le : ∀ (l : List UInt8) (n : Nat), (∀ x ∈ dp l n, x ≤ n + l.length) ∧ (dp l n).length ≤ l.length
 | [], n => ⟨fun x h => (by cases h), Nat.le_refl _⟩
 | c :: l, n => by
  rw [dp]
  split
  ·obtain ⟨h1, h2⟩ := dp_le l n
   refine ⟨fun x hx => ?_, by rw [List.length_cons, List.length_cons]; omega⟩
   rcases List.mem_cons.1 hx with h | h
   ·omega
   ·have := h1 x h; rw [List.length_cons]; omega
  ·obtain ⟨h1, h2⟩ := dp_le l (n + 1)
   exact ⟨fun x hx => by have := h1 x hx; rw [List.length_cons]; omega, by rw [List.length_cons]; omega⟩
theorem chk_zero {ps xs : List (List UInt8)} (h : chk ps xs = 0) : ¬ ps.length > 2000 ∧ ¬ xs.length > 2000 ∧ (∃ q, patsOf ps = some q) ∧ xs.all excB = true := by
 unfold chk at h
 split at h
 ·cases h
 ·rename_i h1
  split at h
  ·rename_i h2
   split at h
   ·rename_i h3
    exact ⟨fun h' => h1 (.inl h'), fun h' => h1 (.inr h'), Option.isSome_iff_exists.1 h2, h3⟩
   ·cases h
  ·cases h
theorem Points_f (w : List UInt8) (hw : w.length ≤ 1048576) (ps xs : List (List UInt8)) (hp : Short ps) (hx : Short xs) (a3 a4 : Int) :
  Ev (fun k => hyphen_Points.f k (B w) (ps.map B) (xs.map B) a3 a4) (pointsR w ps xs a3 a4) := by
 obtain ⟨t, hl, ht⟩ := low_ok w (by omega)
 by_cases hx2 : xs.length > 2000
 ·have hc : chk ps xs = 2 := by unfold chk; rw [if_pos (.inr hx2)]
  refine Ev.congr (fun k => ?_) (Ev.now _)
  unfold pointsR
  rw [hyphen_Points.f, if_pos (by rw [List.length_map]; omega), hc, if_neg (by decide)]
 ·have hhead : ∀ k, hyphen_Points.f k (B w) (ps.map B) (xs.map B) a3 a4 = (hyphen_parsed.f k (ps.map B)).bind fun bt159 => (if bt159.2 = 0 then ((slices_ContainsFunc_string_string.f k (xs.map B)).bind fun t163 => (hyphen_Points.j0 k (B w) (xs.map B) a3 a4 bt159.1 bt159.2 t163)) else (hyphen_Points.j0 k (B w) (xs.map B) a3 a4 bt159.1 bt159.2 false)) := by
   intro k
   rw [hyphen_Points.f, if_neg (by rw [List.length_map]; omega)]
  refine Ev.congr hhead (Ev.bind (parsed_f ps hp) ?_)
  have stop : ∀ (P : List S64) (e : Int), e ≠ 0 → Ev (fun k => hyphen_Points.j0 k (B w) (xs.map B) a3 a4 P e false) (([], e) : List Int × Int) := by
   intro P e he
   refine Ev.step (f := fun k => hyphen_Points.j1 k (B w) (xs.map B) a3 a4 P e) (fun k => ?_) (Ev.step (f := fun _ => some _) (fun k => ?_) (Ev.now _))
   ·rw [hyphen_Points.j0, if_neg Bool.false_ne_true]
   ·rw [hyphen_Points.j1, if_neg he]
  by_cases hp2 : ps.length > 2000
  ·have hc : chk ps xs = 2 := by unfold chk; rw [if_pos (.inl hp2)]
   rw [if_pos hp2]
   unfold pointsR
   rw [hc, if_neg (by decide)]
   exact Ev.congr (fun k => if_neg (by decide)) (stop _ 2 (by decide))
  ·rw [if_neg hp2]
   cases hq : patsOf ps with
   | none =>
    have hc : chk ps xs = 4 := by unfold chk; rw [if_neg (fun h => by rcases h with h | h; exact hp2 h; exact hx2 h), hq]; rfl
    unfold pointsR
    rw [hc, if_neg (by decide)]
    exact Ev.congr (fun k => if_neg (by decide)) (stop _ 4 (by decide))
   | some q =>
    dsimp only
    refine Ev.congr (fun k => if_pos rfl) (Ev.bind (containsFunc_f xs hx) ?_)
    by_cases he : xs.all excB = true
    ·have hc : chk ps xs = 0 := by unfold chk; rw [if_neg (fun h => by rcases h with h | h; exact hp2 h; exact hx2 h), hq, if_pos (show (some q).isSome = true from rfl), if_pos he]
     rw [he]
     unfold pointsR
     rw [if_pos hc, hq]
     have hj1 : ∀ r, Ev (fun k => hyphen_Points.j1 k (B w) (xs.map B) a3 a4 (q.map mkS) 0) r → Ev (fun k => hyphen_Points.j0 k (B w) (xs.map B) a3 a4 (q.map mkS) 0 (!true)) r := by
      intro r h
      refine Ev.step (fun k => ?_) h
      rw [hyphen_Points.j0, if_neg (by decide)]
     have hno : Ev (fun k => hyphen_Points.j2 k (xs.map B) a3 a4 (q.map mkS) t true) (([], 1) : List Int × Int) := by
      refine Ev.step (f := fun _ => some _) (fun k => ?_) (Ev.now _)
      rw [hyphen_Points.j2, if_pos rfl]
     by_cases hwd : wordS w = true
     ·by_cases hab : (1 ≤ a3 ∧ a3 ≤ 10) ∧ 1 ≤ a4 ∧ a4 ≤ 10
      ·rw [if_pos ⟨hwd, hab⟩]
       have hs := word_short hwd
       obtain ⟨b, rfl⟩ := Int.eq_ofNat_of_zero_le (a := a3) (by omega)
       obtain ⟨h, rfl⟩ := Int.eq_ofNat_of_zero_le (a := a4) (by omega)
       obtain ⟨hf, hl2⟩ := patsOf_fit ps hp.2 q hq
       have hll := lowS_length w
       have hv := values_f (lowS w) (by omega) q hf (by have := hp.1; omega)
       have h0 := pts_l0 (lowS w) b h (by omega) (by omega) (by omega) (by omega) xs hx he xs.length 0 (valS (lowS w) q) _ (by omega) (valS_length _ _) rfl
       rw [List.drop_zero, hll] at h0
       refine hj1 _ (Ev.step (f := fun k => hyphen_Points.j2 k (xs.map B) (b : Int) (h : Int) (q.map mkS) t false) (fun k => ?_) (Ev.step (f := fun k => (hyphen_values.f k (B (lowS w)) (q.map mkS)).bind fun t166 => (hyphen_Points.l0 k (b : Int) (h : Int) (B (lowS w)) t166 (xs.map B) (xs.length : Int) 0)) (fun k => ?_) (Ev.bind hv h0)))
       ·rw [hyphen_Points.j1, if_pos rfl, hl, Option.bind_some]
        dsimp only
        rw [if_pos hwd, if_neg (by unfold mn; split <;> omega), decide_eq_false (by unfold mx; split <;> omega)]
       ·rw [hyphen_Points.j2, if_neg Bool.false_ne_true, ht hwd, List.length_map]
      ·rw [if_neg (fun h => hab h.2)]
       refine hj1 _ (Ev.step (fun k => ?_) hno)
       rw [hyphen_Points.j1, if_pos rfl, hl, Option.bind_some]
       dsimp only
       rw [if_pos hwd]
       by_cases hmn : mn a3 a4 < 1
       ·rw [if_pos hmn]
       ·rw [if_neg hmn, decide_eq_true (by
         unfold mn at hmn
         unfold mx
         split at hmn <;> split <;> omega)]
     ·rw [if_neg (fun h => hwd h.1)]
      refine hj1 _ (Ev.step (fun k => ?_) hno)
      rw [hyphen_Points.j1, if_pos rfl, hl, Option.bind_some]
      dsimp only
      rw [if_neg hwd]
    ·have hc : chk ps xs = 4 := by unfold chk; rw [if_neg (fun h => by rcases h with h | h; exact hp2 h; exact hx2 h), hq, if_pos (show (some q).isSome = true from rfl), if_neg he]
     rw [Bool.eq_false_iff.2 he]
     unfold pointsR
     rw [hc, if_neg (by decide)]
     refine Ev.step (f := fun k => hyphen_Points.j1 k (B w) (xs.map B) a3 a4 (q.map mkS) 4) (fun k => ?_) (Ev.step (f := fun _ => some _) (fun k => ?_) (Ev.now _))
     ·rw [hyphen_Points.j0, if_pos (by decide)]
     ·rw [hyphen_Points.j1, if_neg (by decide)]
theorem rPoints_f (w : List UInt8) (hw : w.length ≤ 1048576) (ps xs : List (List UInt8)) (hp : Short ps) (hx : Short xs) (a3 a4 : Int) :
  Ev (fun k => frisketref09_Points.f k (B w) (ps.map B) (xs.map B) a3 a4) (pointsR w ps xs a3 a4) := by
 refine Ev.bind (check_f ps xs hp hx) ?_
 unfold pointsR
 by_cases hc : chk ps xs = 0
 ·obtain ⟨_, _, ⟨q, hq⟩, he⟩ := chk_zero hc
  rw [if_pos hc, hq]
  refine Ev.congr (fun k => if_pos hc) (Ev.bind (word_f w (by omega)) ?_)
  have hno : Ev (fun k => frisketref09_Points.j0 k (B w) (ps.map B) (xs.map B) a3 a4 true) (([], 1) : List Int × Int) := by
   refine Ev.step (f := fun _ => some _) (fun k => ?_) (Ev.now _)
   rw [frisketref09_Points.j0, if_pos rfl]
  by_cases hwd : wordS w = true
  ·rw [hwd]
   refine Ev.congr (fun k => if_pos rfl) ?_
   by_cases hab : (1 ≤ a3 ∧ a3 ≤ 10) ∧ 1 ≤ a4 ∧ a4 ≤ 10
   ·rw [if_pos ⟨rfl, hab⟩]
    have hs := word_short hwd
    obtain ⟨b, rfl⟩ := Int.eq_ofNat_of_zero_le (a := a3) (by omega)
    obtain ⟨h, rfl⟩ := Int.eq_ofNat_of_zero_le (a := a4) (by omega)
    have hll := lowS_length w
    have hv := rvalues_f (lowS w) (by omega) ps hp q hq
    have h1 := rpts_l1 (lowS w) b h (by omega) (valS (lowS w) q) xs hx (fun x hx' f hf => by have := (dp_le x 0).1 f hf; have := hx.2 x hx'; omega) (fun x hx' => by have := (dp_le x 0).2; have := hx.2 x hx'; omega) xs.length 0 (odds (valS (lowS w) q) (lowS w).length) (by omega) (by
     unfold odds
     have := List.length_filter_le (fun i => oddI ((valS (lowS w) q).getD i 0)) (List.range' 1 ((lowS w).length - 1))
     rw [List.length_range'] at this
     omega) (fun f hf => by
     have := List.mem_range'_1.1 (List.mem_filter.1 hf).1
     omega)
    rw [List.drop_zero] at h1
    have h0 := rpts_l0 (lowS w) b h (by omega) (valS (lowS w) q) (valS_length _ _) (xs.map B) _ ((lowS w).length - 1) 1 [] (by omega) (Nat.le_refl _) (by simp) h1
    rw [hll] at h0
    refine Ev.congr (f := fun k => frisketref09_Points.j0 k (B w) (ps.map B) (xs.map B) (b : Int) (h : Int) false) (fun k => ?_) (Ev.step (f := fun k => (frisketref09_lower.f k (B w)).bind fun t281 => ((frisketref09_values.f k t281 (ps.map B)).bind fun t282 => (frisketref09_Points.l0 k t281 (xs.map B) (b : Int) (h : Int) t282 ([] : List Int) 1))) (fun k => ?_) (Ev.bind (lower_f w (by omega)) (Ev.bind hv h0)))
    ·rw [if_neg (by omega), if_neg (by omega), if_neg (by omega), decide_eq_false (by omega)]
    ·rw [frisketref09_Points.j0, if_neg Bool.false_ne_true]
   ·rw [if_neg (fun h => hab h.2)]
    refine Ev.congr (fun k => ?_) hno
    by_cases h1 : a3 < 1
    ·rw [if_pos h1]
    ·rw [if_neg h1]
     by_cases h2 : a3 > 10
     ·rw [if_pos h2]
     ·rw [if_neg h2]
      by_cases h3 : a4 < 1
      ·rw [if_pos h3]
      ·rw [if_neg h3, decide_eq_true (by omega)]
  ·rw [Bool.eq_false_iff.2 hwd]
   rw [if_neg (fun h => absurd h.1 Bool.false_ne_true)]
   exact Ev.congr (fun k => if_neg Bool.false_ne_true) hno
 ·rw [if_neg hc]
  exact Ev.congr (fun k => if_neg hc) (Ev.now _)
theorem pointsR_length (w : List UInt8) (ps xs : List (List UInt8)) (hx : Short xs) (a3 a4 : Int) : (pointsR w ps xs a3 a4).1.length ≤ 1048576 := by
 unfold pointsR
 split
 ·split
  ·rename_i _ h
   have hs := word_short h.1
   unfold ints
   rw [List.length_map]
   refine Nat.le_trans (List.length_filter_le _ _) ?_
   have key : ∀ (ys : List (List UInt8)), (∀ y ∈ ys, y.length ≤ 1048576) → ∀ F : List Nat, F.length ≤ 1048576 → (found (lowS w) ys F).length ≤ 1048576 := by
    intro ys
    induction ys with
    | nil => exact fun _ F hF => hF
    | cons y ys ih =>
     intro hy F hF
     rw [found]
     refine ih (fun z hz => hy z (List.mem_cons_of_mem _ hz)) _ ?_
     split
     ·have := (dp_le y 0).2; have := hy y (List.mem_cons_self ..); omega
     ·exact hF
   refine key xs hx.2 _ ?_
   unfold odds
   have := List.length_filter_le (fun i => oddI ((valS (lowS w) ((patsOf ps).getD [])).getD i 0)) (List.range' 1 (w.length - 1))
   rw [List.length_range'] at this
   omega
  ·exact Nat.zero_le _
 ·exact Nat.zero_le _
end Go.Proofs.YtmjglgbkigjfkaaDoor.Pure
namespace Go.Proofs.YtmjglgbkigjfkaaDoor.Pure
open Go.RowKit Go.Proofs.YtmjglgbkigjfkaaDoor Go.Proofs.YtmjglgbkigjfkaaDoor.Xa Go.Proofs.YtmjglgbkigjfkaaDoorW.PrintWords Go.Proofs.YtmjglgbkigjfkaaDoorW.PrintLast Go.Proofs.YtmjglgbkigjfkaaDoorW.PrintMore
def stdPs : List (List UInt8) := Lib.fields stdText.data.toList
theorem std_B : stdList = stdPs.map B := rfl
theorem std_short : Short stdPs := by
 have h : (decide (stdPs.length ≤ 1048576) && stdPs.all fun p => decide (p.length ≤ 1048576)) = true := by decide +kernel
 rw [Bool.and_eq_true, decide_eq_true_eq] at h
 exact ⟨h.1, fun p hp => of_decide_eq_true (List.all_eq_true.1 h.2 p hp)⟩
theorem short_nil : Short [] := ⟨by simp, fun p h => (by cases h)⟩
theorem sane_ev : Ev frisketlaw09_sane.f true := by
 have hP := Points_f [110, 97, 116, 105, 111, 110] (by decide) stdPs [] std_short short_nil 2 2
 have e : pointsR [110, 97, 116, 105, 111, 110] stdPs [] 2 2 = ([2], 0) := by decide +kernel
 rw [e] at hP
 have h2 : Ev (fun k => (hyphen_Points.f k (⟨#[110, 97, 116, 105, 111, 110]⟩ : ByteArray) stdList ([] : List ByteArray) 2 2).bind fun bt184 => (if bt184.2 = 0 then (if (bt184.1.length : Int) = 1 then (if 0 < (bt184.1.length : Int) then (some ((rd bt184.1 0) == 2)) else (none)) else (some false)) else (some false))) true :=
  Ev.bind (f := fun _ (b : List Int × Int) => if b.2 = 0 then (if (b.1.length : Int) = 1 then (if 0 < (b.1.length : Int) then (some ((rd b.1 0) == 2)) else (none)) else (some false)) else (some false)) hP (Ev.congr (fun _ => by decide) (Ev.now true))
 exact h2
theorem valuesR_length (w : List UInt8) (ps : List (List UInt8)) : (valuesR w ps).1.length ≤ 1048576 := by
 unfold valuesR
 split
 ·exact Nat.zero_le _
 ·split
  ·exact Nat.zero_le _
  ·split
   ·rename_i h
    have := word_short h
    dsimp only
    rw [valS_length, lowS_length]
    omega
   ·exact Nat.zero_le _
theorem same_ev (w : List UInt8) (hw : w.length ≤ 1048576) (ps xs : List (List UInt8)) (hp : Short ps) (hx : Short xs) (a3 a4 : Int) :
  Ev (fun k => frisketlaw09_same.f k (B w) (ps.map B) (xs.map B) a3 a4) true := by
 have hj : Ev (fun k => frisketlaw09_same.j0 k (B w) (ps.map B) (!true)) true := by
  refine Ev.step (f := fun k => (hyphen_Values.f k (B w) (ps.map B)).bind fun bt321 => ((frisketref09_Values.f k (B w) (ps.map B)).bind fun bt325 => (if bt321.2 = bt325.2 then ((frisketlaw09_numbers.f k bt321.1 bt325.1).bind fun t329 => (some t329)) else (some false)))) (fun k => ?_) ?_
  ·rw [frisketlaw09_same.j0, if_neg (by decide)]
  ·refine Ev.bind (Values_f w hw ps hp) (Ev.bind (rValues_f w hw ps hp) (Ev.congr (fun k => if_pos rfl) ?_))
   exact Ev.bind (f := fun _ (t : Bool) => some t) (numbers_same _ (by have := valuesR_length w ps; omega)) (Ev.now true)
 refine Ev.bind (Points_f w hw ps xs hp hx a3 a4) (Ev.bind (rPoints_f w hw ps xs hp hx a3 a4) (Ev.congr (fun k => if_pos rfl) ?_))
 exact Ev.bind (f := fun k (t : Bool) => frisketlaw09_same.j0 k (B w) (ps.map B) (!t)) (numbers_same _ (by have := pointsR_length w ps xs hx a3 a4; omega)) hj
end Go.Proofs.YtmjglgbkigjfkaaDoor.Pure
