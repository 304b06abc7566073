/- Layer 9 (hyphen), the plain law, part 6: the values of a word: the program's and the reference's loops come to one list. -/
import Derived.Test.YtmjglgbkigjfkaaDoorYQ2
import Derived.Test.YtmjglgbkigjfkaaDoorYa0
import Derived.Test.YtmjglgbkigjfkaaDoorYa8
import Derived.Test.YtmjglgbkigjfkaaDoorYa16
import Derived.Test.YtmjglgbkigjfkaaDoorYa19
import Derived.Test.YtmjglgbkigjfkaaDoorYa5
import Derived.Test.YtmjglgbkigjfkaaDoorYa6
import Derived.Test.YtmjglgbkigjfkaaDoorYa7
import Derived.Test.YtmjglgbkigjfkaaDoorYa12
import Derived.Test.YtmjglgbkigjfkaaDoorYa14
import Derived.Test.YtmjglgbkigjfkaaDoorYa15
import Derived.Test.YtmjglgbkigjfkaaDoorYa21
set_option linter.unusedVariables false
set_option linter.unusedSimpArgs false
namespace Go.Proofs.YtmjglgbkigjfkaaDoor.Pure
open Go.RowKit Go.Proofs.YtmjglgbkigjfkaaDoor Go.Proofs.YtmjglgbkigjfkaaDoor.Xa Go.Proofs.YtmjglgbkigjfkaaDoorW.PrintWords Go.Proofs.YtmjglgbkigjfkaaDoorW.PrintLast Go.Proofs.YtmjglgbkigjfkaaDoorW.PrintMore
/-- The values v laid from place a + i on, where they are greater. -/
def putV : List Int → Nat → Nat → List Int → List Int
 | all, _, _, [] => all
 | all, a, i, x :: v => putV (all.set (a + i) (mx (all.getD (a + i) 0) x)) a (i + 1) v
theorem putV_length : ∀ (v : List Int) (all : List Int) (a i : Nat), (putV all a i v).length = all.length
 | [], _, _, _ => rfl
 | x :: v, all, a, i => by rw [putV, putV_length v]; exact List.length_set
/-- A pattern laid at each place from a on where it stands; d: the places that are left. -/
def valAt (fr t : List UInt8) (v : List Int) : Nat → Nat → List Int → List Int
 | 0, _, all => all
 | d + 1, a, all => valAt fr t v d (a + 1) (if (fr.drop a).take t.length = t then putV all a 0 v else all)
theorem valAt_length (fr t : List UInt8) (v : List Int) : ∀ (d a : Nat) (all : List Int), (valAt fr t v d a all).length = all.length
 | 0, _, _ => rfl
 | d + 1, a, all => by
  rw [valAt, valAt_length fr t v d]
  split
  ·exact putV_length _ _ _ _
  ·rfl
def valsAll (fr : List UInt8) : List (List UInt8 × List Int) → List Int → List Int
 | [], all => all
 | x :: q, all => valsAll fr q (valAt fr x.1 x.2 (fr.length + 1 - x.1.length) 0 all)
theorem valsAll_length (fr : List UInt8) : ∀ (q : List (List UInt8 × List Int)) (all : List Int), (valsAll fr q all).length = all.length
 | [], _ => rfl
 | x :: q, all => by rw [valsAll, valsAll_length fr q, valAt_length]
def frame (w : List UInt8) : List UInt8 := 46 :: (w ++ [46])
theorem frame_length (w : List UInt8) : (frame w).length = w.length + 2 := by simp [frame]
def valS (w : List UInt8) (q : List (List UInt8 × List Int)) : List Int := ((valsAll (frame w) q (List.replicate (w.length + 3) 0)).take (w.length + 2)).drop 1
/-- What a pattern that was read is like. -/
def Fit (x : List UInt8 × List Int) : Prop := x.2.length = x.1.length + 1 ∧ x.1.length ≤ 1048576
theorem mul_rd (l : List Int) (n : Nat) : rd l (n : Int) = l.getD n 0 := by unfold rd; rw [Int.toNat_natCast]
section
variable (w fr : List UInt8) (hfr : fr.length ≤ 1048576)
include hfr
omit hfr in
theorem vals_l2 (t : List UInt8) (v : List Int) (S : List S64) (n idx : Int) (a : Nat) (r : List Int) : ∀ (d i : Nat) (all : List Int), i + d = v.length → a + v.length ≤ all.length → all.length ≤ 1048577 →
  Ev (fun k => hyphen_values.l1 k (B w) (B fr) (putV all a i (v.drop i)) ((a + 1 : Nat) : Int) S n idx (B t) v) r → Ev (fun k => hyphen_values.l2 k (B w) (B fr) all (a : Int) S n idx v (v.length : Int) (i : Int) (B t) v) r
 | 0, i, all, hi, ha, hl, h => by
  rw [List.drop_of_length_le (by omega)] at h
  refine Ev.step (fun k => ?_) h
  rw [hyphen_values.l2, if_neg (by omega), w64 (x := (a : Int) + 1) (by omega) (by omega)]
  rfl
 | d + 1, i, all, hi, ha, hl, h => by
  have hlt : i < v.length := by omega
  rw [drop_at v i hlt, putV] at h
  refine Ev.step (fun k => ?_) (vals_l2 t v S n idx a r d (i + 1) _ (by omega) (by rw [List.length_set]; exact ha) (by rw [List.length_set]; exact hl) h)
  have e : wrap64 ((a : Int) + (i : Int)) = ((a + i : Nat) : Int) := by rw [w64 (by omega) (by omega)]; omega
  have e2 : v.getD i 0 = v[i] := by rw [List.getD_eq_getElem?_getD, List.getElem?_eq_getElem hlt]; rfl
  rw [hyphen_values.l2, if_pos (by omega), if_pos (by omega), if_pos (by omega), e, if_pos (by omega), if_pos (by omega), Int.toNat_natCast, mul_rd, mul_rd, e2, w64 (x := (i : Int) + 1) (by omega) (by omega)]
  rfl
theorem vals_l1 (t : List UInt8) (v : List Int) (S : List S64) (n : Int) (idx : Nat) (r : List Int) (hx : Fit (t, v)) (hi : idx ≤ 1048576) : ∀ (d a : Nat) (all : List Int), d = fr.length + 1 - t.length - a → a ≤ fr.length + 1 → all.length = fr.length + 1 →
  Ev (fun k => hyphen_values.l0 k (B w) (B fr) (valAt fr t v d a all) S n ((idx + 1 : Nat) : Int)) r → Ev (fun k => hyphen_values.l1 k (B w) (B fr) all (a : Int) S n (idx : Int) (B t) v) r
 | 0, a, all, hd, ha, hl, h => by
  have h1 := hx.1
  have h2 := hx.2
  dsimp only at h1 h2
  refine Ev.step (fun k => ?_) h
  rw [hyphen_values.l1, size_B, size_B, w64 (x := (a : Int) + (t.length : Int)) (by omega) (by omega), if_neg (by omega), w64 (x := (idx : Int) + 1) (by omega) (by omega)]
  rfl
 | d + 1, a, all, hd, ha, hl, h => by
  have h1 := hx.1
  have h2 := hx.2
  dsimp only at h1 h2
  rw [valAt] at h
  have e : wrap64 ((a : Int) + (t.length : Int)) = ((a + t.length : Nat) : Int) := by rw [w64 (by omega) (by omega)]; omega
  have ex : (B fr).extract ((a : Int)).toNat (((a + t.length : Nat) : Int)).toNat = B ((fr.drop a).take t.length) := by
   rw [show ((a : Int)).toNat = a from Int.toNat_natCast a, show (((a + t.length : Nat) : Int)).toNat = a + t.length from Int.toNat_natCast _, extract_B, show a + t.length - a = t.length by omega]
  by_cases hm : (fr.drop a).take t.length = t
  ·rw [if_pos hm] at h
   have ih := vals_l1 t v S n idx r hx hi d (a + 1) (putV all a 0 v) (by omega) (by omega) (by rw [putV_length]; exact hl) h
   have h3 := vals_l2 w fr t v S n (idx : Int) a r v.length 0 all (by omega) (by omega) (by omega) ih
   refine Ev.step (fun k => ?_) h3
   rw [hyphen_values.l1, size_B, size_B, e, if_pos (by omega), if_pos (by omega), if_pos (by omega), ex, toList_B, toList_B, if_pos hm]
   rfl
  ·rw [if_neg hm] at h
   have ih := vals_l1 t v S n idx r hx hi d (a + 1) all (by omega) (by omega) hl h
   refine Ev.step (fun k => ?_) ih
   rw [hyphen_values.l1, size_B, size_B, e, if_pos (by omega), if_pos (by omega), if_pos (by omega), ex, toList_B, toList_B, if_neg hm, w64 (x := (a : Int) + 1) (by omega) (by omega)]
   rfl
theorem vals_l0 (q : List (List UInt8 × List Int)) (hq : ∀ x ∈ q, Fit x) (hn : q.length ≤ 1048576) (hw : fr.length = w.length + 2) : ∀ (d i : Nat) (all : List Int), i + d = q.length → all.length = fr.length + 1 →
  Ev (fun k => hyphen_values.l0 k (B w) (B fr) all (q.map mkS) (q.length : Int) (i : Int)) (((valsAll fr (q.drop i) all).take (w.length + 2)).drop 1)
 | 0, i, all, hi, hl => by
  rw [show q.drop i = [] from List.drop_of_length_le (by omega)]
  refine Ev.step (f := fun _ => some _) (fun k => ?_) (Ev.now _)
  have e : wrap64 (((B w).size : Int) + 2) = ((w.length + 2 : Nat) : Int) := by rw [size_B, w64 (by omega) (by omega)]; omega
  rw [hyphen_values.l0, if_neg (by omega), e, if_pos (by omega), if_pos (by omega), Int.toNat_natCast]
  rfl
 | d + 1, i, all, hi, hl => by
  have hlt : i < q.length := by omega
  have hx := hq _ (List.getElem_mem hlt)
  obtain ⟨⟨t, v⟩, he⟩ : ∃ x, q[i] = x := ⟨_, rfl⟩
  rw [he] at hx
  rw [drop_at q i hlt, he, valsAll]
  have ih := vals_l0 q hq hn hw d (i + 1) (valAt fr t v (fr.length + 1 - t.length) 0 all) (by omega) (by rw [valAt_length]; exact hl)
  have h3 := vals_l1 w fr hfr t v (q.map mkS) (q.length : Int) i _ hx (by omega) (fr.length + 1 - t.length) 0 all (by omega) (by omega) hl ih
  refine Ev.step (fun k => ?_) h3
  have er : rd_T64 (q.map mkS) (i : Int) = mkS (t, v) := by
   unfold rd_T64
   rw [Int.toNat_natCast, List.getD_eq_getElem?_getD, List.getElem?_map, List.getElem?_eq_getElem hlt, he]
   rfl
  rw [hyphen_values.l0, if_pos (by omega), if_pos (by omega), if_pos (by rw [List.length_map]; omega), er]
  rfl
end
theorem frame_B (w : List UInt8) : ((⟨#[46]⟩ : ByteArray) ++ B w) ++ (⟨#[46]⟩ : ByteArray) = B (frame w) := by
 have e : (⟨#[46]⟩ : ByteArray) = B [46] := rfl
 rw [e, append_B, append_B]
 rfl
theorem vals_head {α : Type} (w : List UInt8) (hw : w.length ≤ 1000000) (C : ByteArray → List Int → Option α) :
  (if 1 + (B w).size ≤ 9223372036854775807 then (if ((⟨#[46]⟩ : ByteArray) ++ B w).size + 1 ≤ 9223372036854775807 then (if 0 ≤ (wrap64 (((((⟨#[46]⟩ : ByteArray) ++ B w) ++ (⟨#[46]⟩ : ByteArray)).size : Int) + 1)) then (if (wrap64 (((((⟨#[46]⟩ : ByteArray) ++ B w) ++ (⟨#[46]⟩ : ByteArray)).size : Int) + 1) : Int).toNat ≤ 35184372088832 then (C (((⟨#[46]⟩ : ByteArray) ++ B w) ++ (⟨#[46]⟩ : ByteArray)) (List.replicate (wrap64 (((((⟨#[46]⟩ : ByteArray) ++ B w) ++ (⟨#[46]⟩ : ByteArray)).size : Int) + 1) : Int).toNat 0)) else (none)) else (none)) else (none)) else (none)) = C (B (frame w)) (List.replicate (w.length + 3) 0) := by
 have e1 : ((⟨#[46]⟩ : ByteArray) ++ B w).size = w.length + 1 := by
  have e : (⟨#[46]⟩ : ByteArray) = B [46] := rfl
  rw [e, append_B, size_B]; simp
 have e2 : wrap64 (((B (frame w)).size : Int) + 1) = ((w.length + 3 : Nat) : Int) := by
  rw [size_B, frame_length, w64 (by omega) (by omega)]; omega
 rw [frame_B, e1, e2, if_pos (by rw [size_B]; omega), if_pos (by omega), if_pos (by omega), if_pos (by omega), Int.toNat_natCast]
theorem values_f (w : List UInt8) (hw : w.length ≤ 1000000) (q : List (List UInt8 × List Int)) (hq : ∀ x ∈ q, Fit x) (hn : q.length ≤ 1048576) :
  Ev (fun k => hyphen_values.f k (B w) (q.map mkS)) (valS w q) := by
 have h := vals_l0 w (frame w) (by rw [frame_length]; omega) q hq hn (frame_length w) q.length 0 (List.replicate (w.length + 3) 0) (by omega) (by rw [List.length_replicate, frame_length])
 refine Ev.congr (fun k => ?_) h
 rw [hyphen_values.f, vals_head w hw (fun x y => hyphen_values.l0 k (B w) x y (q.map mkS) ((q.map mkS).length : Int) 0), List.length_map]
 rfl
theorem patS_fit (l : List UInt8) : ∀ (d i m g : Nat) (t : List UInt8) (v : List Int) (m' : Nat) (t' : List UInt8) (v' : List Int), v.length = t.length → patS l d i m g t v = some (m', t', v') → v'.length = t'.length + 1 ∧ t'.length ≤ t.length + d
 | 0, i, m, g, t, v, m', t', v', hv, h => by
  unfold patS at h
  injection h with h
  injection h with _ h
  injection h with h1 h2
  subst h1 h2
  rw [List.length_append, List.length_singleton]
  exact ⟨by omega, by omega⟩
 | d + 1, i, m, g, t, v, m', t', v', hv, h => by
  unfold patS at h
  have hs : ∀ {c : UInt8} {x : Int}, (v ++ [x]).length = (t ++ [c]).length := by intro c x; rw [List.length_append, List.length_append, List.length_singleton, List.length_singleton, hv]
  split at h
  ·split at h
   ·have := patS_fit l d _ _ _ _ _ _ _ _ hv h; exact ⟨this.1, by omega⟩
   ·cases h
  ·split at h
   ·have := patS_fit l d _ _ _ _ _ _ _ _ hs h
    rw [List.length_append, List.length_singleton] at this
    exact ⟨this.1, by omega⟩
   ·split at h
    ·have := patS_fit l d _ _ _ _ _ _ _ _ hs h
     rw [List.length_append, List.length_singleton] at this
     exact ⟨this.1, by omega⟩
    ·cases h
theorem patOf_fit (l : List UInt8) (hl : l.length ≤ 1048576) (x : List UInt8 × List Int) (h : patOf l = some x) : Fit x := by
 unfold patOf at h
 split at h
 ·cases h
 ·rename_i m t v e
  split at h
  ·injection h with h
   subst h
   have := patS_fit l _ _ _ _ _ _ _ _ _ rfl e
   exact ⟨this.1, by have := this.2; simp at this; show t.length ≤ _; omega⟩
  ·cases h
theorem patsOf_fit : ∀ (ps : List (List UInt8)), (∀ p ∈ ps, p.length ≤ 1048576) → ∀ q, patsOf ps = some q → (∀ x ∈ q, Fit x) ∧ q.length = ps.length
 | [], _, q, h => by
  unfold patsOf at h
  injection h with h
  subst h
  exact ⟨fun x hx => (by cases hx), rfl⟩
 | p :: ps, hp, q, h => by
  unfold patsOf at h
  split at h
  ·rename_i x q' e1 e2
   injection h with h
   subst h
   obtain ⟨h1, h2⟩ := patsOf_fit ps (fun p hp' => hp p (List.mem_cons_of_mem _ hp')) q' e2
   refine ⟨fun y hy => ?_, by rw [List.length_cons, List.length_cons, h2]⟩
   rcases List.mem_cons.1 hy with e | hy
   ·subst e; exact patOf_fit p (hp p (List.mem_cons_self ..)) _ e1
   ·exact h1 y hy
  ·cases h
/-! the reference's -/
section
variable (w fr : List UInt8) (hfr : fr.length ≤ 1048576)
include hfr
omit hfr in
theorem rvals_l2 (t : List UInt8) (v : List Int) (S : List ByteArray) (idx : Int) (a : Nat) (r : List Int) : ∀ (d i : Nat) (all : List Int), i + d = v.length → a + v.length ≤ all.length → all.length ≤ 1048577 →
  Ev (fun k => frisketref09_values.l1 k (B w) S (B fr) (putV all a i (v.drop i)) idx (B t) v ((a + 1 : Nat) : Int)) r → Ev (fun k => frisketref09_values.l2 k (B w) S (B fr) all idx (B t) v (a : Int) (i : Int)) r
 | 0, i, all, hi, ha, hl, h => by
  rw [List.drop_of_length_le (by omega)] at h
  refine Ev.step (fun k => ?_) h
  rw [frisketref09_values.l2, if_neg (by omega), w64 (x := (a : Int) + 1) (by omega) (by omega)]
  rfl
 | d + 1, i, all, hi, ha, hl, h => by
  have hlt : i < v.length := by omega
  rw [drop_at v i hlt, putV] at h
  refine Ev.step (fun k => ?_) (rvals_l2 t v S idx a r d (i + 1) _ (by omega) (by rw [List.length_set]; exact ha) (by rw [List.length_set]; exact hl) h)
  have e : wrap64 ((a : Int) + (i : Int)) = ((a + i : Nat) : Int) := by rw [w64 (by omega) (by omega)]; omega
  have e2 : v.getD i 0 = v[i] := by rw [List.getD_eq_getElem?_getD, List.getElem?_eq_getElem hlt]; rfl
  rw [frisketref09_values.l2, if_pos (by omega), e, if_pos (by omega), if_pos (by omega), if_pos (by omega), Int.toNat_natCast, mul_rd, mul_rd, e2, w64 (x := (i : Int) + 1) (by omega) (by omega)]
  rfl
theorem rvals_l1 (t : List UInt8) (v : List Int) (S : List ByteArray) (idx : Nat) (r : List Int) (hx : Fit (t, v)) (hi : idx ≤ 1048576) : ∀ (d a : Nat) (all : List Int), d = fr.length + 1 - t.length - a → a ≤ fr.length + 1 → all.length = fr.length + 1 →
  Ev (fun k => frisketref09_values.l0 k (B w) S (B fr) (valAt fr t v d a all) ((idx + 1 : Nat) : Int)) r → Ev (fun k => frisketref09_values.l1 k (B w) S (B fr) all (idx : Int) (B t) v (a : Int)) r
 | 0, a, all, hd, ha, hl, h => by
  have h1 := hx.1
  have h2 := hx.2
  dsimp only at h1 h2
  refine Ev.step (fun k => ?_) h
  rw [frisketref09_values.l1, size_B, size_B, w64 (x := (a : Int) + (t.length : Int)) (by omega) (by omega), if_neg (by omega), w64 (x := (idx : Int) + 1) (by omega) (by omega)]
  rfl
 | d + 1, a, all, hd, ha, hl, h => by
  have h1 := hx.1
  have h2 := hx.2
  dsimp only at h1 h2
  rw [valAt] at h
  have e : wrap64 ((a : Int) + (t.length : Int)) = ((a + t.length : Nat) : Int) := by rw [w64 (by omega) (by omega)]; omega
  have ex : (B fr).extract ((a : Int)).toNat (((a + t.length : Nat) : Int)).toNat = B ((fr.drop a).take t.length) := by
   rw [show ((a : Int)).toNat = a from Int.toNat_natCast a, show (((a + t.length : Nat) : Int)).toNat = a + t.length from Int.toNat_natCast _, extract_B, show a + t.length - a = t.length by omega]
  by_cases hm : (fr.drop a).take t.length = t
  ·rw [if_pos hm] at h
   have ih := rvals_l1 t v S idx r hx hi d (a + 1) (putV all a 0 v) (by omega) (by omega) (by rw [putV_length]; exact hl) h
   have h3 := rvals_l2 w fr t v S (idx : Int) a r v.length 0 all (by omega) (by omega) (by omega) ih
   refine Ev.step (fun k => ?_) h3
   rw [frisketref09_values.l1, size_B, size_B, e, if_pos (by omega), if_pos (by omega), if_pos (by omega), ex, toList_B, toList_B, if_pos hm]
   rfl
  ·rw [if_neg hm] at h
   have ih := rvals_l1 t v S idx r hx hi d (a + 1) all (by omega) (by omega) hl h
   refine Ev.step (fun k => ?_) ih
   rw [frisketref09_values.l1, size_B, size_B, e, if_pos (by omega), if_pos (by omega), if_pos (by omega), ex, toList_B, toList_B, if_neg hm, w64 (x := (a : Int) + 1) (by omega) (by omega)]
   rfl
theorem rvals_l0 (ps : List (List UInt8)) (hp : Short ps) (hw : fr.length = w.length + 2) : ∀ (d i : Nat) (q : List (List UInt8 × List Int)) (all : List Int), i + d = ps.length → patsOf (ps.drop i) = some q → all.length = fr.length + 1 →
  Ev (fun k => frisketref09_values.l0 k (B w) (ps.map B) (B fr) all (i : Int)) (((valsAll fr q all).take (w.length + 2)).drop 1)
 | 0, i, q, all, hi, hq, hl => by
  rw [List.drop_of_length_le (by omega)] at hq
  unfold patsOf at hq
  injection hq with hq
  subst hq
  refine Ev.step (f := fun _ => some _) (fun k => ?_) (Ev.now _)
  have e : wrap64 (((B w).size : Int) + 2) = ((w.length + 2 : Nat) : Int) := by rw [size_B, w64 (by omega) (by omega)]; omega
  rw [frisketref09_values.l0, if_neg (by rw [List.length_map]; omega), e, if_pos (by omega), if_pos (by omega), Int.toNat_natCast]
  rfl
 | d + 1, i, q, all, hi, hq, hl => by
  have hlt : i < ps.length := by omega
  have hn := hp.1
  have hpi := hp.2 _ (List.getElem_mem hlt)
  rw [drop_at ps i hlt, patsOf] at hq
  split at hq
  ·rename_i x q' e1 e2
   injection hq with hq
   subst hq
   obtain ⟨t, v⟩ := x
   have hx := patOf_fit _ hpi _ e1
   obtain ⟨r, hr, ht⟩ := split_t ps[i] hpi
   rw [e1] at ht
   unfold Told at ht
   dsimp only at ht
   subst ht
   rw [valsAll]
   have ih := rvals_l0 ps hp hw d (i + 1) q' (valAt fr t v (fr.length + 1 - t.length) 0 all) (by omega) e2 (by rw [valAt_length]; exact hl)
   have h3 := rvals_l1 w fr hfr t v (ps.map B) i _ hx (by omega) (fr.length + 1 - t.length) 0 all (by omega) (by omega) hl ih
   have hhead : ∀ k, frisketref09_values.l0 (k + 1) (B w) (ps.map B) (B fr) all (i : Int) = (frisketref09_split.f k (B ps[i])).bind fun bt271 => (frisketref09_values.l1 k (B w) (ps.map B) (B fr) all (i : Int) bt271.1 bt271.2.1 0) := by
    intro k
    rw [frisketref09_values.l0, if_pos (by rw [List.length_map]; omega), if_pos (by omega), rdOf_at ps i hlt]
   exact Ev.step hhead (Ev.bind (f := fun k (b : ByteArray × List Int × Bool) => frisketref09_values.l1 k (B w) (ps.map B) (B fr) all (i : Int) b.1 b.2.1 0) hr h3)
  ·cases hq
end
theorem rvalues_f (w : List UInt8) (hw : w.length ≤ 1000000) (ps : List (List UInt8)) (hp : Short ps) (q : List (List UInt8 × List Int)) (hq : patsOf ps = some q) :
  Ev (fun k => frisketref09_values.f k (B w) (ps.map B)) (valS w q) := by
 have h := rvals_l0 w (frame w) (by rw [frame_length]; omega) ps hp (frame_length w) ps.length 0 q (List.replicate (w.length + 3) 0) (by omega) (by rw [List.drop_zero]; exact hq) (by rw [List.length_replicate, frame_length])
 refine Ev.congr (fun k => ?_) h
 rw [frisketref09_values.f, vals_head w hw (fun x y => frisketref09_values.l0 k (B w) (ps.map B) x y 0)]
 rfl
theorem valS_length (w : List UInt8) (q : List (List UInt8 × List Int)) : (valS w q).length = w.length + 1 := by
 unfold valS
 rw [List.length_drop, List.length_take, valsAll_length, List.length_replicate]
 omega
end Go.Proofs.YtmjglgbkigjfkaaDoor.Pure
namespace Go.Proofs.YtmjglgbkigjfkaaDoor.Pure
open Go.RowKit Go.Proofs.YtmjglgbkigjfkaaDoor Go.Proofs.YtmjglgbkigjfkaaDoor.Xa Go.Proofs.YtmjglgbkigjfkaaDoorW.PrintWords Go.Proofs.YtmjglgbkigjfkaaDoorW.PrintLast Go.Proofs.YtmjglgbkigjfkaaDoorW.PrintMore
def valuesR (w : List UInt8) (ps : List (List UInt8)) : List Int × Int :=
 if ps.length > 2000 then ([], 2) else match patsOf ps with
  | none => ([], 4)
  | some q => if wordS w = true then (valS (lowS w) q, 0) else ([], 1)
theorem low_ok (l : List UInt8) (h : l.length ≤ 140737488351232) : ∃ t, hyphen_low.f (B l) = some (t, wordS l) ∧ (wordS l = true → t = B (lowS l)) := by
 rw [low_f l h]
 unfold wordS
 by_cases h1 : (l.all fun c => smallB c || greatB c) = true
 ·rw [if_pos h1, h1, Bool.true_and]; exact ⟨_, rfl, fun _ => rfl⟩
 ·rw [if_neg h1, Bool.eq_false_iff.2 h1, Bool.false_and]; exact ⟨_, rfl, fun h => (by cases h)⟩
theorem lowS_length (l : List UInt8) : (lowS l).length = l.length := List.length_map _
theorem word_short {w : List UInt8} (h : wordS w = true) : 1 ≤ w.length ∧ w.length ≤ 60 := by
 unfold wordS at h
 rw [Bool.and_eq_true, decide_eq_true_eq] at h
 exact h.2
theorem Values_f (w : List UInt8) (hw : w.length ≤ 1048576) (ps : List (List UInt8)) (hp : Short ps) : Ev (fun k => hyphen_Values.f k (B w) (ps.map B)) (valuesR w ps) := by
 unfold valuesR
 obtain ⟨t, hl, ht⟩ := low_ok w (by omega)
 refine Ev.bind (parsed_f ps hp) ?_
 by_cases h1 : ps.length > 2000
 ·rw [if_pos h1, if_pos h1]
  exact Ev.congr (fun k => if_neg (by decide)) (Ev.now _)
 ·rw [if_neg h1, if_neg h1]
  cases hq : patsOf ps with
  | none => exact Ev.congr (fun k => if_neg (by decide)) (Ev.now _)
  | some q =>
   obtain ⟨hf, hl2⟩ := patsOf_fit ps hp.2 q hq
   dsimp only
   refine Ev.congr (fun k => if_pos rfl) ?_
   by_cases hwd : wordS w = true
   ·rw [if_pos hwd]
    have hs := word_short hwd
    refine Ev.congr (f := fun k => (hyphen_values.f k (B (lowS w)) (q.map mkS)).bind fun t216 => some (t216, 0)) (fun k => ?_) (Ev.bind (f := fun _ (x : List Int) => some (x, (0 : Int))) (values_f (lowS w) (by rw [lowS_length]; omega) q hf (by have := hp.1; omega)) (Ev.now _))
    rw [hl, Option.bind_some]
    dsimp only
    rw [if_pos hwd, ht hwd]
   ·rw [if_neg hwd]
    refine Ev.congr (fun k => ?_) (Ev.now _)
    rw [hl, Option.bind_some]
    dsimp only
    rw [if_neg hwd]
theorem chk_nil (ps : List (List UInt8)) : chk ps [] = if ps.length > 2000 then 2 else if (patsOf ps).isSome = true then 0 else 4 := by
 unfold chk
 by_cases h : ps.length > 2000
 ·rw [if_pos (.inl h), if_pos h]
 ·rw [if_neg (fun h' => by rcases h' with h' | h'; exact h h'; simp at h'), if_neg h]
  rfl
theorem rValues_f (w : List UInt8) (hw : w.length ≤ 1048576) (ps : List (List UInt8)) (hp : Short ps) : Ev (fun k => frisketref09_Values.f k (B w) (ps.map B)) (valuesR w ps) := by
 unfold valuesR
 have hc := check_f ps [] hp ⟨by simp, fun p h => (by cases h)⟩
 rw [chk_nil] at hc
 refine Ev.bind hc ?_
 by_cases h1 : ps.length > 2000
 ·rw [if_pos h1, if_pos h1]
  exact Ev.congr (fun k => if_neg (by decide)) (Ev.now _)
 ·rw [if_neg h1, if_neg h1]
  cases hq : patsOf ps with
  | none => exact Ev.congr (fun k => if_neg (by decide)) (Ev.now _)
  | some q =>
   dsimp only
   refine Ev.congr (fun k => if_pos rfl) (Ev.bind (word_f w (by omega)) ?_)
   by_cases hwd : wordS w = true
   ·rw [hwd, if_pos rfl]
    have hs := word_short hwd
    refine Ev.congr (fun k => if_pos rfl) ?_
    have hv := rvalues_f (lowS w) (by rw [lowS_length]; omega) ps hp q hq
    have h3 : Ev (fun k => (frisketref09_lower.f k (B w)).bind fun t305 => (frisketref09_values.f k t305 (ps.map B)).bind fun t306 => if (([] : List Int)).length + t306.length < 17592186044416 then some ((([] : List Int) ++ t306), (0 : Int)) else none) (valS (lowS w) q, 0) := by
     refine Ev.bind (lower_f w (by omega)) (Ev.bind hv (Ev.congr (fun k => ?_) (Ev.now _)))
     rw [if_pos (by rw [valS_length, lowS_length, List.length_nil]; omega), List.nil_append]
    exact h3
   ·rw [Bool.eq_false_iff.2 hwd]
    exact Ev.congr (fun k => if_neg Bool.false_ne_true) (Ev.now _)
/-! exceptions -/
theorem index_l (xs : List (List UInt8)) (hx : Short xs) : ∀ (d i : Nat), i + d = xs.length →
  ∃ r, Ev (fun k => slices_IndexFunc_string_string.l0 k (xs.map B) (xs.length : Int) (i : Int)) r ∧ decide (r ≥ 0) = !((xs.drop i).all excB)
 | 0, i, hi => by
  refine ⟨-1, Ev.step (f := fun _ => some _) (fun k => ?_) (Ev.now _), ?_⟩
  ·rw [slices_IndexFunc_string_string.l0, if_neg (by omega)]
  ·rw [List.drop_of_length_le (by omega)]; rfl
 | d + 1, i, hi => by
  have hlt : i < xs.length := by omega
  have hn := hx.1
  have he := exc_f xs[i] (hx.2 _ (List.getElem_mem hlt))
  have hp : hyphen_Points_1.f (B xs[i]) = some (!excB xs[i]) := by unfold hyphen_Points_1.f; rw [he]; rfl
  have hhead : ∀ k, slices_IndexFunc_string_string.l0 (k + 1) (xs.map B) (xs.length : Int) (i : Int) = if (!excB xs[i]) = true then some (i : Int) else slices_IndexFunc_string_string.l0 k (xs.map B) (xs.length : Int) ((i + 1 : Nat) : Int) := by
   intro k
   rw [slices_IndexFunc_string_string.l0, if_pos (by omega), if_pos (by omega), if_pos (by rw [List.length_map]; omega), rdOf_at xs i hlt, hp, Option.bind_some, w64s hlt (by omega)]
  rw [drop_at xs i hlt, List.all_cons]
  cases hb : excB xs[i] with
  | true =>
   obtain ⟨r, h1, h2⟩ := index_l xs hx d (i + 1) (by omega)
   refine ⟨r, Ev.step (fun k => ?_) h1, by rw [h2, Bool.true_and]⟩
   rw [hhead, hb, if_neg (by decide)]
  | false =>
   refine ⟨(i : Int), Ev.step (f := fun _ => some _) (fun k => ?_) (Ev.now _), ?_⟩
   ·rw [hhead, hb, if_pos (by decide)]
   ·rw [Bool.false_and]; exact decide_eq_true (by omega)
theorem containsFunc_f (xs : List (List UInt8)) (hx : Short xs) : Ev (fun k => slices_ContainsFunc_string_string.f k (xs.map B)) (!(xs.all excB)) := by
 obtain ⟨r, h1, h2⟩ := index_l xs hx xs.length 0 (by omega)
 rw [List.drop_zero] at h2
 rw [← h2]
 refine Ev.bind (f := fun _ (t : Int) => some (decide (t ≥ 0))) (Ev.congr (fun k => ?_) h1) (Ev.now _)
 rw [slices_IndexFunc_string_string.f, List.length_map]
 rfl
/-- The places of a text's dashes, in letters; n letters stand ahead. -/
def dp : List UInt8 → Nat → List Nat
 | [], _ => []
 | c :: l, n => if c = 45 then n :: dp l n else dp l (n + 1)
theorem nd_cons (c : UInt8) (l : List UInt8) : nd (c :: l) = if c = 45 then nd l else c :: nd l := by
 unfold nd
 rw [List.filter_cons]
 by_cases h : c = 45
 ·rw [if_pos h, if_neg (by simp [h])]
 ·rw [if_neg h, if_pos (by simpa using h)]
theorem bare_l (l : List UInt8) (hn : l.length ≤ 1048576) : ∀ (d i : Nat) (t : List UInt8) (v : List Nat), i + d = l.length → t.length ≤ i → v.length ≤ i →
  Ev (fun k => frisketref09_bare.l0 k (B l) (B t) (v.map fun x : Nat => (x : Int)) (i : Int)) (B (t ++ nd (l.drop i)), (v ++ dp (l.drop i) t.length).map fun x : Nat => (x : Int))
 | 0, i, t, v, hi, ht, hv => by
  rw [List.drop_of_length_le (by omega)]
  refine Ev.step (f := fun _ => some _) (fun k => ?_) (Ev.now _)
  rw [frisketref09_bare.l0, if_neg (by rw [size_B]; omega)]
  simp [nd, dp]
 | d + 1, i, t, v, hi, ht, hv => by
  have hlt : i < l.length := by omega
  have h1 : ((i : Int) < ((B l).size : Int)) := by rw [size_B]; omega
  rw [drop_at l i hlt, nd_cons, dp]
  by_cases h45 : l[i] = 45
  ·rw [if_pos h45, if_pos h45]
   have ih := bare_l l hn d (i + 1) t (v ++ [t.length]) (by omega) (by omega) (by rw [List.length_append, List.length_singleton]; omega)
   rw [List.append_assoc, List.singleton_append] at ih
   refine Ev.step (fun k => ?_) ih
   rw [frisketref09_bare.l0, if_pos h1, if_pos (by omega), bt_B l i hlt, if_pos ((eq45 _).2 h45), if_pos (by rw [List.length_map]; omega), size_B, w64s hlt (by omega), List.map_append]
   rfl
  ·rw [if_neg h45, if_neg h45]
   have ih := bare_l l hn d (i + 1) (t ++ [l[i]]) v (by omega) (by rw [List.length_append, List.length_singleton]; omega) (by omega)
   rw [List.append_assoc, List.singleton_append, List.length_append, List.length_singleton] at ih
   refine Ev.step (fun k => ?_) ih
   rw [frisketref09_bare.l0, if_pos h1, if_pos (by omega), bt_B l i hlt, if_neg (fun h => h45 ((eq45 _).1 h)), w64s hlt (by omega), if_pos (by omega), if_pos (by rw [size_B]; omega), take1 l i hlt, if_pos (by rw [size_B, size_B, List.length_singleton]; omega), append_B]
theorem bare_f (l : List UInt8) (hn : l.length ≤ 1048576) : Ev (fun k => frisketref09_bare.f k (B l)) (B (nd l), (dp l 0).map fun x : Nat => (x : Int)) := by
 have h := bare_l l hn l.length 0 [] [] (by omega) (by simp) (by simp)
 exact h
/-- An exception's values: a 1 at each dash. -/
def mk : List UInt8 → Nat → List Int → List Int
 | [], _, all => all
 | c :: l, n, all => if c = 45 then mk l n (all.set n 1) else mk l (n + 1) all
theorem mk_length : ∀ (l : List UInt8) (n : Nat) (all : List Int), (mk l n all).length = all.length
 | [], _, _ => rfl
 | c :: l, n, all => by
  rw [mk]
  split
  ·rw [mk_length l, List.length_set]
  ·exact mk_length l _ _
theorem mk_at : ∀ (l : List UInt8) (n : Nat) (all : List Int) (i : Nat), i < all.length → (mk l n all).getD i 0 = if i ∈ dp l n then 1 else all.getD i 0
 | [], n, all, i, hi => by simp [mk, dp]
 | c :: l, n, all, i, hi => by
  rw [mk, dp]
  by_cases h : c = 45
  ·rw [if_pos h, if_pos h, mk_at l n _ i (by rw [List.length_set]; exact hi)]
   by_cases h1 : i ∈ dp l n
   ·rw [if_pos h1, if_pos (List.mem_cons_of_mem _ h1)]
   ·rw [if_neg h1]
    by_cases h2 : i = n
    ·subst h2
     rw [if_pos (List.mem_cons_self ..), List.getD_eq_getElem?_getD, List.getElem?_set_self hi]
     rfl
    ·rw [if_neg (fun h3 => by rcases List.mem_cons.1 h3 with h3 | h3; exact h2 h3; exact h1 h3), List.getD_eq_getElem?_getD, List.getElem?_set_ne (fun e => h2 e.symm), List.getD_eq_getElem?_getD]
  ·rw [if_neg h, if_neg h]
   exact mk_at l (n + 1) all i hi
theorem dp_ge : ∀ (l : List UInt8) (n x : Nat), x ∈ dp l n → n ≤ x
 | [], n, x, h => by cases h
 | c :: l, n, x, h => by
  rw [dp] at h
  split at h
  ·rcases List.mem_cons.1 h with h | h
   ·omega
   ·exact dp_ge l n x h
  ·have := dp_ge l (n + 1) x h; omega
theorem dp_gt (l : List UInt8) (n x : Nat) (hh : l.head? ≠ some 45) (h : x ∈ dp l n) : n < x := by
 cases l with
 | nil => cases h
 | cons c l =>
  have hc : c ≠ 45 := fun e => hh (by rw [e]; rfl)
  rw [dp, if_neg hc] at h
  have := dp_ge l (n + 1) x h
  omega
def NoTwo (l : List UInt8) : Prop := ∀ i : Nat, ¬ (l[i]? = some (45 : UInt8) ∧ l[i + 1]? = some (45 : UInt8))
theorem NoTwo.tail {c : UInt8} {l : List UInt8} (h : NoTwo (c :: l)) : NoTwo l := fun i hi => h (i + 1) (by simpa using hi)
theorem dp_sorted : ∀ (l : List UInt8) (n : Nat), NoTwo l → (dp l n).Pairwise (· < ·)
 | [], n, h => List.Pairwise.nil
 | c :: l, n, h => by
  rw [dp]
  split
  ·rename_i hc
   refine List.Pairwise.cons (fun x hx => dp_gt l n x (fun hh => ?_) hx) (dp_sorted l n h.tail)
   refine h 0 ⟨by rw [hc]; rfl, ?_⟩
   rw [List.head?_eq_getElem?] at hh
   simpa using hh
  ·exact dp_sorted l (n + 1) h.tail
theorem dp_lt : ∀ (l : List UInt8) (n x : Nat), l.getLast? ≠ some 45 → x ∈ dp l n → x < n + (nd l).length
 | [], n, x, hl, h => by cases h
 | [c], n, x, hl, h => by
  have hc : c ≠ 45 := fun e => hl (by rw [e]; rfl)
  rw [dp, if_neg hc] at h
  cases h
 | c :: c2 :: l, n, x, hl, h => by
  have hl2 : (c2 :: l).getLast? ≠ some 45 := by simpa using hl
  rw [dp] at h
  rw [nd_cons]
  by_cases hc : c = 45
  ·rw [if_pos hc] at h
   rw [if_pos hc]
   rcases List.mem_cons.1 h with h | h
   ·subst h
    have : 0 < (nd (c2 :: l)).length := by
     apply List.length_pos_of_mem (a := (c2 :: l).getLast (by simp))
     refine List.mem_filter.2 ⟨List.getLast_mem _, ?_⟩
     have : (c2 :: l).getLast (by simp) ≠ 45 := fun e => hl2 (by rw [List.getLast?_eq_some_getLast (by simp), e])
     simpa using this
    omega
   ·exact dp_lt (c2 :: l) n x hl2 h
  ·rw [if_neg hc] at h
   rw [if_neg hc, List.length_cons]
   have := dp_lt (c2 :: l) (n + 1) x hl2 h
   omega
theorem filt : ∀ (n a : Nat) (l : List Nat), l.Pairwise (· < ·) → (∀ x ∈ l, a ≤ x ∧ x < a + n) → (List.range' a n).filter (fun i => decide (i ∈ l)) = l
 | 0, a, l, hs, hb => by
  cases l with
  | nil => rfl
  | cons x l => have := hb x (List.mem_cons_self ..); omega
 | n + 1, a, l, hs, hb => by
  rw [List.range'_succ, List.filter_cons]
  cases l with
  | nil => simp
  | cons x l =>
   have hx := hb x (List.mem_cons_self ..)
   obtain ⟨h1, h2⟩ := List.pairwise_cons.1 hs
   by_cases e : x = a
   ·subst e
    rw [if_pos (decide_eq_true (List.mem_cons_self ..))]
    congr 1
    rw [← filt n (x + 1) l h2 (fun y hy => ⟨h1 y hy, by have := (hb y (List.mem_cons_of_mem _ hy)).2; omega⟩)]
    apply List.filter_congr
    intro i hi
    have := (List.mem_range'_1.1 hi).1
    rw [decide_eq_decide, filt n (x + 1) l h2 (fun y hy => ⟨h1 y hy, by have := (hb y (List.mem_cons_of_mem _ hy)).2; omega⟩), List.mem_cons]
    exact ⟨fun h => by rcases h with h | h; omega; exact h, fun h => .inr h⟩
   ·have ha : a ∉ x :: l := by
     intro h
     rcases List.mem_cons.1 h with h | h
     ·exact e h.symm
     ·have := h1 a h; omega
    rw [if_neg (by simpa using ha)]
    refine filt n (a + 1) (x :: l) hs (fun y hy => ⟨?_, by have := (hb y hy).2; omega⟩)
    rcases List.mem_cons.1 hy with h | h
    ·omega
    ·have := h1 y h; omega
theorem exc_dp (x : List UInt8) (h : excB x = true) : (List.range' 1 ((nd x).length - 1)).filter (fun i => decide (i ∈ dp x 0)) = dp x 0 := by
 unfold excB at h
 rw [Bool.and_eq_true, Bool.and_eq_true, Bool.and_eq_true, Bool.and_eq_true, decide_eq_true_eq] at h
 have hnot : ∀ b : Bool, (!b) = true ↔ ¬ b = true := by intro b; cases b <;> simp
 rw [hnot, hnot, hnot, decide_eq_true_eq, decide_eq_true_eq, contains_iff] at h
 obtain ⟨_, h2, h3, h4, h5⟩ := h
 refine filt _ _ _ (dp_sorted x 0 (fun i hi => h5 ⟨i, hi⟩)) (fun y hy => ?_)
 have ha := dp_gt x 0 y h3 hy
 have hb := dp_lt x 0 y h4 hy
 omega
end Go.Proofs.YtmjglgbkigjfkaaDoor.Pure
