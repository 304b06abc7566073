/- Layer 9 (hyphen), the plain law: the patterns that numbers make are patterns. -/
import Derived.Test.YtmjglgbkigjfkaaDoorYQ2
import Derived.Test.YtmjglgbkigjfkaaDoorYXWd
import Derived.Test.YtmjglgbkigjfkaaDoorYa0
import Derived.Test.YtmjglgbkigjfkaaDoorYa2
set_option linter.unusedVariables false
set_option linter.unusedSimpArgs false
namespace Go.Proofs.YtmjglgbkigjfkaaDoor.Pure
open Go.RowKit Go.Proofs.YtmjglgbkigjfkaaDoor Go.Proofs.YtmjglgbkigjfkaaDoor.Xa Go.Proofs.YtmjglgbkigjfkaaDoorW.PrintWords Go.Proofs.YtmjglgbkigjfkaaDoorW.PrintLast Go.Proofs.YtmjglgbkigjfkaaDoorW.PrintMore
def SegOk (s : List UInt8) : Prop := ∃ c, smallB c = true ∧ (s = [c] ∨ ∃ g, digB g = true ∧ s = [g, c])
def Pre (s : List UInt8) (j : Nat) : Prop := ∃ (f : List UInt8) (segs : List (List UInt8)), s = f ++ segs.flatten ∧ (f = [] ∨ f = [46]) ∧ segs.length = j ∧ ∀ x ∈ segs, SegOk x
theorem flat_len : ∀ segs : List (List UInt8), (∀ x ∈ segs, SegOk x) → segs.flatten.length ≤ 2 * segs.length
 | [], _ => by simp
 | x :: r, h => by
  have h1 := flat_len r (fun y hy => h y (List.mem_cons_of_mem _ hy))
  obtain ⟨c, _, hx | ⟨g, _, hx⟩⟩ := h x (List.mem_cons_self ..) <;> subst hx <;> simp [-List.length_flatten] <;> omega
theorem pre_len {s : List UInt8} {j : Nat} (h : Pre s j) : s.length ≤ 1 + 2 * j := by
 obtain ⟨f, segs, rfl, hf, rfl, hs⟩ := h
 have := flat_len segs hs
 rw [List.length_append]
 rcases hf with rfl | rfl
 ·rw [List.length_nil]; omega
 ·rw [List.length_singleton]; omega
theorem pre_snoc {s x : List UInt8} {j : Nat} (h : Pre s j) (hx : SegOk x) : Pre (s ++ x) (j + 1) := by
 obtain ⟨f, segs, rfl, hf, rfl, hs⟩ := h
 refine ⟨f, segs ++ [x], by simp, hf, by simp, fun y hy => ?_⟩
 rcases List.mem_append.1 hy with hy | hy
 ·exact hs y hy
 ·rw [List.mem_singleton] at hy
  subst hy
  exact hx
theorem getD_mid (p r : List UInt8) (c : UInt8) : (p ++ c :: r).getD p.length 0 = c := by
 rw [List.getD_eq_getElem?_getD, List.getElem?_append_right (Nat.le_refl _), Nat.sub_self]
 rfl
theorem small_not_dig {c : UInt8} (h : smallB c = true) : ¬ digB c = true := fun e => by
 rw [dig_not_small e] at h
 cases h
theorem pat_letter (p r : List UInt8) (c : UInt8) (hc : smallB c = true) (d m g : Nat) (t : List UInt8) (v : List Int) :
  patS (p ++ c :: r) (d + 1) p.length m g t v = patS (p ++ c :: r) d (p.length + 1) (m + 1) 0 (t ++ [c]) (v ++ [(g : Int)]) := by
 rw [patS, getD_mid, if_neg (small_not_dig hc), if_pos hc]
theorem pat_digit (p r : List UInt8) (g : UInt8) (hg : digB g = true) (d m : Nat) (t : List UInt8) (v : List Int) :
  patS (p ++ g :: r) (d + 1) p.length m 0 t v = patS (p ++ g :: r) d (p.length + 1) m (g.toNat - 48) t v := by
 rw [patS, getD_mid, if_pos hg, if_pos rfl]
theorem pat_segs : ∀ (segs : List (List UInt8)) (p b : List UInt8) (m : Nat) (t : List UInt8) (v : List Int), (∀ x ∈ segs, SegOk x) →
  ∃ t' v', patS (p ++ (segs.flatten ++ b)) (segs.flatten.length + b.length) p.length m 0 t v = patS (p ++ (segs.flatten ++ b)) b.length (p.length + segs.flatten.length) (m + segs.length) 0 t' v'
 | [], p, b, m, t, v, _ => ⟨t, v, by simp⟩
 | x :: r, p, b, m, t, v, h => by
  obtain ⟨c, hc, hx | ⟨g, hg, hx⟩⟩ := h x (List.mem_cons_self ..)
  ·subst hx
   obtain ⟨t', v', e⟩ := pat_segs r (p ++ [c]) b (m + 1) (t ++ [c]) (v ++ [((0 : Nat) : Int)]) (fun y hy => h y (List.mem_cons_of_mem _ hy))
   refine ⟨t', v', ?_⟩
   have e1 : p ++ (([c] :: r).flatten ++ b) = p ++ c :: (r.flatten ++ b) := by simp
   have e2 : p ++ [c] ++ (r.flatten ++ b) = p ++ c :: (r.flatten ++ b) := by simp
   have e3 : ([c] :: r).flatten.length + b.length = (r.flatten.length + b.length) + 1 := by simp; omega
   have e4 : p.length + ([c] :: r).flatten.length = (p ++ [c]).length + r.flatten.length := by simp; omega
   have e5 : m + ([c] :: r).length = m + 1 + r.length := by simp; omega
   have e6 : (p ++ [c]).length = p.length + 1 := by simp
   rw [e2, e6] at e
   rw [e1, e3, e4, e5, e6, pat_letter p _ c hc, e]
  ·subst hx
   obtain ⟨t', v', e⟩ := pat_segs r (p ++ [g] ++ [c]) b (m + 1) (t ++ [c]) (v ++ [((g.toNat - 48 : Nat) : Int)]) (fun y hy => h y (List.mem_cons_of_mem _ hy))
   refine ⟨t', v', ?_⟩
   have e1 : p ++ (([g, c] :: r).flatten ++ b) = p ++ g :: c :: (r.flatten ++ b) := by simp
   have e1' : (p ++ [g]) ++ c :: (r.flatten ++ b) = p ++ g :: c :: (r.flatten ++ b) := by simp
   have e2 : p ++ [g] ++ [c] ++ (r.flatten ++ b) = p ++ g :: c :: (r.flatten ++ b) := by simp
   have e3 : ([g, c] :: r).flatten.length + b.length = (r.flatten.length + b.length) + 1 + 1 := by simp; omega
   have e4 : p.length + ([g, c] :: r).flatten.length = p.length + 1 + 1 + r.flatten.length := by simp; omega
   have e5 : m + ([g, c] :: r).length = m + 1 + r.length := by simp; omega
   have e6 : (p ++ [g] ++ [c]).length = p.length + 1 + 1 := by simp
   have e7 : (p ++ [g]).length = p.length + 1 := by simp
   rw [e2, e6] at e
   have hl := pat_letter (p ++ [g]) (r.flatten ++ b) c hc (r.flatten.length + b.length) m (g.toNat - 48) t v
   rw [e1', e7] at hl
   rw [e1, e3, e4, e5, pat_digit p _ g hg, hl, e]
theorem pat_dot0 (r : List UInt8) (d m : Nat) (t : List UInt8) (v : List Int) : patS (46 :: r) (d + 1) 0 m 0 t v = patS (46 :: r) d 1 m 0 (t ++ [46]) (v ++ [((0 : Nat) : Int)]) := by
 rw [patS]
 have e : (46 :: r).getD 0 0 = (46 : UInt8) := rfl
 rw [e, if_neg (by decide), if_neg (by decide), if_pos ⟨rfl, .inl rfl⟩]
theorem pat_end (l : List UInt8) (b : List UInt8) (hb : b = [] ∨ b = [46]) (m : Nat) (t : List UInt8) (v : List Int) : ∃ t' v', patS (l ++ b) b.length l.length m 0 t v = some (m, t', v') := by
 rcases hb with rfl | rfl
 ·exact ⟨_, _, rfl⟩
 ·refine ⟨t ++ [46], v ++ [0] ++ [0], ?_⟩
  rw [show [(46 : UInt8)].length = 0 + 1 from rfl, patS, getD_mid, if_neg (by decide), if_neg (by decide), if_pos ⟨rfl, .inr (by simp)⟩, patS]
  rfl
theorem pat_ok {s : List UInt8} {j : Nat} (h : Pre s j) (h1 : 1 ≤ j) (h15 : j ≤ 15) (b : List UInt8) (hb : b = [] ∨ b = [46]) : (patOf (s ++ b)).isSome = true := by
 obtain ⟨f, segs, rfl, hf, rfl, hs⟩ := h
 have key : ∃ t v, patS (f ++ segs.flatten ++ b) (f ++ segs.flatten ++ b).length 0 0 0 [] [] = some (segs.length, t, v) := by
  rcases hf with rfl | rfl
  ·obtain ⟨t1, v1, e⟩ := pat_segs segs [] b 0 [] [] hs
   obtain ⟨t2, v2, e2⟩ := pat_end segs.flatten b hb segs.length t1 v1
   refine ⟨t2, v2, ?_⟩
   simp only [List.nil_append, List.length_nil, Nat.zero_add] at e
   rw [List.nil_append, List.length_append, e, e2]
  ·obtain ⟨t1, v1, e⟩ := pat_segs segs [46] b 0 ([] ++ [46]) ([] ++ [((0 : Nat) : Int)]) hs
   obtain ⟨t2, v2, e2⟩ := pat_end ([46] ++ segs.flatten) b hb segs.length t1 v1
   refine ⟨t2, v2, ?_⟩
   have el : ([46] ++ segs.flatten ++ b).length = (segs.flatten.length + b.length) + 1 := by simp
   have ea : [46] ++ segs.flatten ++ b = (46 : UInt8) :: (segs.flatten ++ b) := by simp
   have eb : [46] ++ (segs.flatten ++ b) = (46 : UInt8) :: (segs.flatten ++ b) := rfl
   have ec : ([46] ++ segs.flatten).length = [(46 : UInt8)].length + segs.flatten.length := List.length_append
   rw [ea, ec] at e2
   rw [eb, Nat.zero_add] at e
   rw [el, ea, pat_dot0, ← e2, ← e]
   rfl
 obtain ⟨t, v, e⟩ := key
 unfold patOf
 rw [e]
 dsimp only
 rw [if_pos ⟨h1, h15⟩]
 rfl
end Go.Proofs.YtmjglgbkigjfkaaDoor.Pure
namespace Go.Proofs.YtmjglgbkigjfkaaDoor.Pure
open Go.RowKit Go.Proofs.YtmjglgbkigjfkaaDoor Go.Proofs.YtmjglgbkigjfkaaDoor.Xa Go.Proofs.YtmjglgbkigjfkaaDoorW.PrintWords Go.Proofs.YtmjglgbkigjfkaaDoorW.PrintLast Go.Proofs.YtmjglgbkigjfkaaDoorW.PrintMore
def GoodP (p : List UInt8) : Prop := p.length ≤ 10 ∧ (patOf p).isSome = true
theorem u64_small (n : Nat) (h : n ≤ 9223372036854775807) : IntKind.u64.wrap (n : Int) = (n : Int) := by
 unfold IntKind.wrap
 simp [IntKind.bits, IntKind.signed]
 omega
theorem u64_succ (n : Nat) (h : n ≤ 281474976710656) : IntKind.u64.wrap ((n : Int) + 1) = ((n + 1 : Nat) : Int) := u64_small (n + 1) (by omega)
theorem tmod_nat (x : Int) (m : Nat) (hm : 0 < m) (h : 0 ≤ x) : ∃ n : Nat, Int.tmod x (m : Int) = (n : Int) ∧ n < m := by
 have h1 := Int.tmod_nonneg (m : Int) h
 have h2 := Int.tmod_lt_of_pos x (b := (m : Int)) (by omega)
 exact ⟨(Int.tmod x (m : Int)).toNat, by omega, by omega⟩
def lettersP : List UInt8 := [97, 98, 100, 101, 105, 108, 110, 111, 114, 115, 116, 117]
theorem lettersPB : (⟨#[97, 98, 100, 101, 105, 108, 110, 111, 114, 115, 116, 117]⟩ : ByteArray) = B lettersP := rfl
theorem lettersP_small (n : Nat) (h : n < 12) : smallB (lettersP.getD n 0) = true := by
 have : ∀ n : Fin 12, smallB (lettersP.getD n.val 0) = true := by decide +kernel
 exact this ⟨n, h⟩
theorem cutP (n : Nat) (h : n < 12) : (B lettersP).extract ((n : Int)).toNat (((n + 1 : Nat) : Int)).toNat = B [lettersP.getD n 0] := by
 rw [take1 lettersP n h, List.getD_eq_getElem?_getD, List.getElem?_eq_getElem (l := lettersP) h]
 rfl
theorem digitN (d : Nat) (h0 : 0 < d) (h : d < 10) : strOfNums [((48 + d : Nat) : Int) % 256] = B [UInt8.ofNat (48 + d)] ∧ digB (UInt8.ofNat (48 + d)) = true := by
 have : ∀ d : Fin 10, 0 < d.val → strOfNums [((48 + d.val : Nat) : Int) % 256] = B [UInt8.ofNat (48 + d.val)] ∧ digB (UInt8.ofNat (48 + d.val)) = true := by decide +kernel
 exact this ⟨d, h⟩ h0
theorem pats_l1 (l : List Int) (acc : List (List UInt8)) (i : Nat) (hi : i < l.length) (hi40 : i < 40) (hacc : acc.length = i) (hg : ∀ p ∈ acc, GoodP p)
  (next : ∀ acc' : List (List UInt8), acc'.length = i + 1 → (∀ p ∈ acc', GoodP p) → ∃ ps : List (List UInt8), Ev (fun k => frisketlaw09_patterns.l0 k l (acc'.map B) ((i + 1 : Nat) : Int)) (ps.map B) ∧ ps.length ≤ 40 ∧ ∀ p ∈ ps, GoodP p)
  (x : Int) (hx : 0 ≤ x) (q : Nat) (hq : Int.tmod x 4 = (q : Int)) (hq4 : q < 4) : ∀ (e j : Nat), j + e = 1 + q → ∀ s, Pre s j →
  ∃ ps : List (List UInt8), Ev (fun k => frisketlaw09_patterns.l1 k l (acc.map B) (i : Int) x (B s) (j : Int)) (ps.map B) ∧ ps.length ≤ 40 ∧ ∀ p ∈ ps, GoodP p
 | 0, j, he, s, hs => by
  have hl := pre_len hs
  have hm : ∀ a : List UInt8, acc.map B ++ [B a] = (acc ++ [a]).map B := fun a => by simp
  have hlt : (acc.map B).length < 8796093022208 := by rw [List.length_map]; omega
  have hwr : IntKind.u64.wrap (1 + (q : Int)) = ((1 + q : Nat) : Int) := u64_small (1 + q) (by omega)
  have hgood : ∀ b, b = [] ∨ b = [46] → ∀ p ∈ acc ++ [s ++ b], GoodP p := fun b hb p hp => by
   rcases List.mem_append.1 hp with hp | hp
   ·exact hg p hp
   ·rw [List.mem_singleton] at hp
    subst hp
    refine ⟨?_, pat_ok hs (by omega) (by omega) b hb⟩
    rw [List.length_append]
    rcases hb with rfl | rfl
    ·rw [List.length_nil]; omega
    ·rw [List.length_singleton]; omega
  by_cases h13 : Int.tmod x 13 = 0
  ·obtain ⟨ps, hev, hps⟩ := next (acc ++ [s ++ [46]]) (by rw [List.length_append, List.length_singleton]; omega) (hgood [46] (.inr rfl))
   refine ⟨ps, Ev.step (fun k => ?_) hev, hps⟩
   rw [frisketlaw09_patterns.l1, hq, hwr, if_neg (by omega), if_pos h13, if_pos (by rw [size_B]; omega), if_pos hlt, show (⟨#[46]⟩ : ByteArray) = B [46] from rfl, append_B, hm, w64s hi40 (by omega)]
  ·obtain ⟨ps, hev, hps⟩ := next (acc ++ [s]) (by rw [List.length_append, List.length_singleton]; omega) (by have := hgood [] (.inl rfl); rwa [List.append_nil] at this)
   refine ⟨ps, Ev.step (fun k => ?_) hev, hps⟩
   rw [frisketlaw09_patterns.l1, hq, hwr, if_neg (by omega), if_neg h13, if_pos hlt, hm, w64s hi40 (by omega)]
 | e + 1, j, he, s, hs => by
  have hl := pre_len hs
  have hwr : IntKind.u64.wrap (1 + (q : Int)) = ((1 + q : Nat) : Int) := u64_small (1 + q) (by omega)
  obtain ⟨d, hd, hd10⟩ := tmod_nat (IntKind.u64.wrap ((Int.tmod (IntKind.u64.wrap (Int.tdiv x 3)) 7) * (IntKind.u64.wrap ((j : Int) + 1)))) 10 (by decide) (u64_nonneg _)
  obtain ⟨c, hc, hc12⟩ := tmod_nat (IntKind.u64.wrap ((IntKind.u64.wrap (Int.tdiv x 7)) + (IntKind.u64.wrap ((IntKind.u64.wrap ((j : Int) * (j : Int))) * 3)))) 12 (by decide) (u64_nonneg _)
  have hsm := lettersP_small c hc12
  rw [show ((10 : Nat) : Int) = 10 from rfl] at hd
  rw [show ((12 : Nat) : Int) = 12 from rfl] at hc
  by_cases h0 : 0 < d
  ·obtain ⟨e1, e2⟩ := digitN d h0 hd10
   have h48 : IntKind.u64.wrap (48 + (d : Int)) = ((48 + d : Nat) : Int) := u64_small (48 + d) (by omega)
   obtain ⟨ps, hev, hps⟩ := pats_l1 l acc i hi hi40 hacc hg next x hx q hq hq4 e (j + 1) (by omega) (s ++ [UInt8.ofNat (48 + d), lettersP.getD c 0]) (pre_snoc hs ⟨_, hsm, .inr ⟨_, e2, rfl⟩⟩)
   refine ⟨ps, Ev.step (fun k => ?_) hev, hps⟩
   have ea : s ++ [UInt8.ofNat (48 + d), lettersP.getD c 0] = s ++ [UInt8.ofNat (48 + d)] ++ [lettersP.getD c 0] := by simp
   rw [frisketlaw09_patterns.l1, hq, hwr, if_pos (by omega), hd, hc, if_pos (by omega), h48, Option.bind_some, e1, if_pos (by rw [size_B, size_B, List.length_singleton]; omega), if_pos (by omega), u64_succ c (by omega), if_pos (by omega), if_pos (by omega), lettersPB, cutP c hc12,
    append_B, if_pos (by rw [size_B, size_B, List.length_append, List.length_singleton, List.length_singleton]; omega), append_B, u64_succ j (by omega), ea]
  ·obtain ⟨ps, hev, hps⟩ := pats_l1 l acc i hi hi40 hacc hg next x hx q hq hq4 e (j + 1) (by omega) (s ++ [lettersP.getD c 0]) (pre_snoc hs ⟨_, hsm, .inl rfl⟩)
   refine ⟨ps, Ev.step (fun k => ?_) hev, hps⟩
   rw [frisketlaw09_patterns.l1, hq, hwr, if_pos (by omega), hd, hc, if_neg (by omega), if_pos (by omega), u64_succ c (by omega), if_pos (by omega), if_pos (by omega), lettersPB, cutP c hc12, if_pos (by rw [size_B, size_B, List.length_singleton]; omega), append_B, u64_succ j (by omega)]
theorem pre_nil (f : List UInt8) (h : f = [] ∨ f = [46]) : Pre f 0 := ⟨f, [], by simp, h, rfl, fun x hx => by cases hx⟩
theorem pats_l0 (l : List Int) : ∀ (d i : Nat), i + d = min 40 l.length → ∀ acc : List (List UInt8), acc.length = i → (∀ p ∈ acc, GoodP p) →
  ∃ ps : List (List UInt8), Ev (fun k => frisketlaw09_patterns.l0 k l (acc.map B) (i : Int)) (ps.map B) ∧ ps.length ≤ 40 ∧ ∀ p ∈ ps, GoodP p
 | 0, i, hi, acc, ha, hg => by
  refine ⟨acc, ?_, by omega, hg⟩
  have hj : Ev (fun k => frisketlaw09_patterns.j1 k l (acc.map B) (i : Int) false) (acc.map B) := by
   refine Ev.step (f := fun _ => some (acc.map B)) (fun k => ?_) (Ev.now _)
   rw [frisketlaw09_patterns.j1, if_neg Bool.false_ne_true]
  refine Ev.step (fun k => ?_) hj
  by_cases h : i < l.length
  ·rw [frisketlaw09_patterns.l0, if_pos (by omega), decide_eq_false (by omega)]
  ·rw [frisketlaw09_patterns.l0, if_neg (by omega)]
 | d + 1, i, hi, acc, ha, hg => by
  have h1 : i < l.length := by omega
  have h40 : i < 40 := by omega
  have hx := u64_nonneg l[i]
  obtain ⟨q, hq, hq4⟩ := tmod_nat (IntKind.u64.wrap l[i]) 4 (by decide) hx
  rw [show ((4 : Nat) : Int) = 4 from rfl] at hq
  have inner := fun f hf => pats_l1 l acc i h1 h40 ha hg (fun acc' ha' hg' => pats_l0 l d (i + 1) (by omega) acc' ha' hg') (IntKind.u64.wrap l[i]) hx q hq hq4 (1 + q) 0 (by omega) f (pre_nil f hf)
  have h2 : ∀ f, f = [] ∨ f = [46] → ∃ ps : List (List UInt8), Ev (fun k => frisketlaw09_patterns.j2 k l (acc.map B) (i : Int) (IntKind.u64.wrap l[i]) (B f)) (ps.map B) ∧ ps.length ≤ 40 ∧ ∀ p ∈ ps, GoodP p := fun f hf => by
   obtain ⟨ps, hev, hps⟩ := inner f hf
   refine ⟨ps, Ev.step (fun k => ?_) hev, hps⟩
   rw [frisketlaw09_patterns.j2]
   rfl
  by_cases h11 : Int.tmod (IntKind.u64.wrap l[i]) 11 = 0
  ·obtain ⟨ps, hev, hps⟩ := h2 [46] (.inr rfl)
   refine ⟨ps, Ev.step (fun k => ?_) (Ev.step (g := fun k => frisketlaw09_patterns.j1 k l (acc.map B) (i : Int) true) (fun k => ?_) hev), hps⟩
   ·rw [frisketlaw09_patterns.l0, if_pos (by omega), decide_eq_true (by omega)]
   ·rw [frisketlaw09_patterns.j1, if_pos rfl, if_pos (by omega), if_pos (by omega), rd_at l i h1, if_pos h11]
    rfl
  ·obtain ⟨ps, hev, hps⟩ := h2 [] (.inl rfl)
   refine ⟨ps, Ev.step (fun k => ?_) (Ev.step (g := fun k => frisketlaw09_patterns.j1 k l (acc.map B) (i : Int) true) (fun k => ?_) hev), hps⟩
   ·rw [frisketlaw09_patterns.l0, if_pos (by omega), decide_eq_true (by omega)]
   ·rw [frisketlaw09_patterns.j1, if_pos rfl, if_pos (by omega), if_pos (by omega), rd_at l i h1, if_neg h11]
    rfl
theorem pats_ev (l : List Int) : ∃ ps : List (List UInt8), Ev (fun k => frisketlaw09_patterns.f k l) (ps.map B) ∧ ps.length ≤ 40 ∧ ∀ p ∈ ps, GoodP p := by
 obtain ⟨ps, h, hps⟩ := pats_l0 l (min 40 l.length) 0 (by omega) [] rfl (fun p hp => by cases hp)
 exact ⟨ps, h, hps⟩
theorem good_short {ps : List (List UInt8)} (h1 : ps.length ≤ 40) (h2 : ∀ p ∈ ps, GoodP p) : Short ps := ⟨by omega, fun p hp => by have := (h2 p hp).1; omega⟩
theorem good_pats : ∀ {ps : List (List UInt8)}, (∀ p ∈ ps, GoodP p) → (patsOf ps).isSome = true
 | [], _ => rfl
 | p :: ps, h => by
  have h1 := (h p (List.mem_cons_self ..)).2
  have h2 := good_pats (ps := ps) (fun q hq => h q (List.mem_cons_of_mem _ hq))
  rw [patsOf]
  cases e1 : patOf p with
  | none => rw [e1] at h1; cases h1
  | some x =>
   cases e2 : patsOf ps with
   | none => rw [e2] at h2; cases h2
   | some q => rfl
end Go.Proofs.YtmjglgbkigjfkaaDoor.Pure
