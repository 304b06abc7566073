/- Layer 9 (hyphen), the plain law: Read of both sides is one function. -/
import Derived.Test.YtmjglgbkigjfkaaDoorYXShow
import Derived.Test.YtmjglgbkigjfkaaDoorYQ2
import Derived.Test.YtmjglgbkigjfkaaDoorYa0
import Derived.Test.YtmjglgbkigjfkaaDoorYa15
import Derived.Test.YtmjglgbkigjfkaaDoorYa17
import Derived.Test.YtmjglgbkigjfkaaDoorYa33
set_option linter.unusedVariables false
set_option linter.unusedSimpArgs false
namespace Go.Proofs.YtmjglgbkigjfkaaDoor.Pure
open Go.RowKit Go.Proofs.YtmjglgbkigjfkaaDoor Go.Proofs.YtmjglgbkigjfkaaDoor.Xa Go.Proofs.YtmjglgbkigjfkaaDoorW.PrintWords Go.Proofs.YtmjglgbkigjfkaaDoorW.PrintLast Go.Proofs.YtmjglgbkigjfkaaDoorW.PrintMore
/-- May these letters and dashes stand behind a letter (b), or behind a dash or nothing? -/
def okT : Bool → List UInt8 → Bool
  | _, [] => true
  | b, c :: t => if c = 45 then b && (!t.isEmpty && okT false t) else okT true t
theorem okT_nd : ∀ (l : List UInt8), nd l = [] → l ≠ [] → okT false l = false
  | [], _, h => absurd rfl h
  | c :: t, h, _ => by
    rw [nd_cons] at h
    by_cases hc : c = 45
    · rw [okT, if_pos hc, Bool.false_and]
    · rw [if_neg hc] at h
      cases h
theorem okT_long : ∀ (l : List UInt8) (b : Bool), okT b l = true → l.length ≤ 2 * (nd l).length + (if b = true then 1 else 0)
  | [], b, _ => by simp
  | c :: t, b, h => by
    rw [okT] at h
    rw [nd_cons, List.length_cons]
    by_cases hc : c = 45
    · rw [if_pos hc, Bool.and_eq_true, Bool.and_eq_true] at h
      have := okT_long t false h.2.2
      rw [if_pos hc, if_pos h.1]
      simp at this
      omega
    · rw [if_neg hc] at h
      have := okT_long t true h
      rw [if_neg hc, List.length_cons]
      simp at this
      omega
theorem show_dp : ∀ (l w acc : List UInt8) (fr cnt : Nat), w.drop cnt = nd l → fr ≤ cnt → cnt ≤ w.length →
    showR w acc fr ((dp l cnt).map fun x : Nat => (x : Int)) = if okT (decide (fr < cnt)) l = true then (acc ++ ((w.drop fr).take (cnt - fr) ++ l), 0) else ([], 1)
  | [], w, acc, fr, cnt, hd, hf, hc => by
    have h0 : (nd ([] : List UInt8)) = [] := rfl
    rw [h0] at hd
    have h1 : w.length ≤ cnt := List.drop_eq_nil_iff.1 hd
    rw [okT, if_pos rfl, List.append_nil, List.take_of_length_le (by rw [List.length_drop]; omega)]
    rfl
  | c :: t, w, acc, fr, cnt, hd, hf, hc => by
    rw [nd_cons] at hd
    by_cases h : c = 45
    · subst h
      rw [if_pos rfl] at hd
      rw [dp, if_pos rfl, List.map_cons, showR, okT, if_pos rfl]
      by_cases hb : fr < cnt
      · rw [decide_eq_true hb, Bool.true_and]
        by_cases hn : nd t = []
        · rw [hn] at hd
          have h1 : w.length ≤ cnt := List.drop_eq_nil_iff.1 hd
          rw [if_pos (.inr (by omega))]
          have : ¬ ((!t.isEmpty && okT false t) = true) := by
            cases ht : t with
            | nil => simp
            | cons a b =>
              rw [← ht, okT_nd t hn (by rw [ht]; simp), Bool.and_false]
              exact Bool.false_ne_true
          rw [if_neg this]
        · have h1 : cnt < w.length := by
            have : ¬ w.drop cnt = [] := by rw [hd]; exact hn
            rw [List.drop_eq_nil_iff] at this
            omega
          have ht : t ≠ [] := fun e => hn (by rw [e]; rfl)
          have ht' : (!t.isEmpty) = true := by cases t with
            | nil => exact absurd rfl ht
            | cons a b => rfl
          rw [if_neg (by omega), show ((cnt : Int)).toNat = cnt from Int.toNat_natCast cnt, show_dp t w _ cnt cnt hd (Nat.le_refl _) hc, ht', Bool.true_and, decide_eq_false (Nat.lt_irrefl cnt), Nat.sub_self, List.take_zero, List.nil_append]
          simp only [List.append_assoc, List.singleton_append]
      · rw [if_pos (.inl (by omega)), decide_eq_false hb, Bool.false_and, if_neg Bool.false_ne_true]
    · rw [if_neg h] at hd
      have h1 : cnt < w.length := by
        have : ¬ w.drop cnt = [] := by rw [hd]; simp
        rw [List.drop_eq_nil_iff] at this
        omega
      have hd' : w.drop (cnt + 1) = nd t := by rw [← List.drop_drop, hd]; rfl
      have hg : w.drop cnt = w[cnt] :: w.drop (cnt + 1) := List.drop_eq_getElem_cons h1
      have hcc : w[cnt] = c := by rw [hg] at hd; exact (List.cons.inj hd).1
      have ht : (w.drop fr).take (cnt + 1 - fr) = (w.drop fr).take (cnt - fr) ++ [c] := by
        rw [show cnt + 1 - fr = (cnt - fr) + 1 by omega]
        have hl : cnt - fr < (w.drop fr).length := by rw [List.length_drop]; omega
        rw [← List.take_append_getElem hl, List.getElem_drop]
        congr 2
        rw [← hcc]
        congr 1
        omega
      rw [dp, if_neg h, okT, if_neg h, show_dp t w acc fr (cnt + 1) hd' (by omega) (by omega), decide_eq_true (by omega), ht]
      simp only [List.append_assoc, List.singleton_append]
theorem okT_iff : ∀ (l : List UInt8) (b : Bool), okT b l = true ↔ ((b = false → l.head? ≠ some 45) ∧ l.getLast? ≠ some 45 ∧ ∀ i : Nat, ¬ (l[i]? = some (45 : UInt8) ∧ l[i + 1]? = some (45 : UInt8)))
  | [], b => by simp [okT]
  | c :: t, b => by
    rw [okT]
    by_cases h : c = 45
    · subst h
      rw [if_pos rfl, Bool.and_eq_true, Bool.and_eq_true, okT_iff t false]
      cases t with
      | nil => simp
      | cons a r =>
        constructor
        · rintro ⟨hb, _, h1, h2, h3⟩
          refine ⟨fun e => (by rw [hb] at e; cases e), by rw [List.getLast?_cons_cons]; exact h2, fun i => ?_⟩
          cases i with
          | zero =>
            rintro ⟨_, e⟩
            exact h1 rfl (by simpa using e)
          | succ i => simpa using h3 i
        · rintro ⟨h1, h2, h3⟩
          refine ⟨?_, rfl, fun _ e => h3 0 ⟨rfl, by simpa using e⟩, by rw [List.getLast?_cons_cons] at h2; exact h2, fun i => by simpa using h3 (i + 1)⟩
          cases b with
          | true => rfl
          | false => exact absurd rfl (h1 rfl)
    · rw [if_neg h, okT_iff t true]
      cases t with
      | nil => simp [h]
      | cons a r =>
        constructor
        · rintro ⟨_, h2, h3⟩
          refine ⟨fun _ e => h (by simpa using e), by rw [List.getLast?_cons_cons]; exact h2, fun i => ?_⟩
          cases i with
          | zero =>
            rintro ⟨e, _⟩
            exact h (by simpa using e)
          | succ i => simpa using h3 i
        · rintro ⟨_, h2, h3⟩
          exact ⟨fun e => (by cases e), by rw [List.getLast?_cons_cons] at h2; exact h2, fun i => by simpa using h3 (i + 1)⟩
theorem lowB_45 (c : UInt8) : lowB c = 45 ↔ c = 45 := by
  have h : ∀ n : Fin 256, (lowB (UInt8.ofNat n.val) = 45) ↔ (UInt8.ofNat n.val = 45) := by decide +kernel
  have := h ⟨c.toNat, c.toNat_lt⟩
  simpa using this
theorem nd_lowS : ∀ l : List UInt8, nd (lowS l) = lowS (nd l)
  | [] => rfl
  | c :: t => by
    have ih := nd_lowS t
    unfold lowS at ih ⊢
    rw [List.map_cons, nd_cons, nd_cons, ih]
    by_cases h : c = 45
    · rw [if_pos h, if_pos ((lowB_45 c).2 h)]
    · rw [if_neg h, if_neg (fun e => h ((lowB_45 c).1 e)), List.map_cons]
theorem low45 (o : Option UInt8) : o.map lowB = some 45 ↔ o = some 45 := by
  cases o with
  | none => simp
  | some c =>
    rw [Option.map_some, Option.some.injEq, Option.some.injEq]
    exact lowB_45 c
theorem exc_low (l : List UInt8) : excB (lowS l) = (wordS (nd l) && okT false l) := by
  have e1 : (nd (lowS l)).all smallB = (nd l).all fun c => smallB c || greatB c := by
    rw [nd_lowS]
    unfold lowS
    rw [List.all_map]
    congr 1
    funext c
    exact low_letter c
  have e2 : (nd (lowS l)).length = (nd l).length := by rw [nd_lowS, lowS_length]
  unfold excB wordS
  rw [e1, e2, Bool.and_assoc]
  congr 2
  rw [Bool.eq_iff_iff, okT_iff, Bool.and_eq_true, Bool.and_eq_true]
  have hnot : ∀ b : Bool, (!b) = true ↔ ¬ b = true := by intro b; cases b <;> simp
  rw [hnot, hnot, hnot, decide_eq_true_eq, decide_eq_true_eq, contains_iff]
  unfold lowS
  rw [List.head?_map, List.getLast?_map, low45, low45]
  constructor
  · rintro ⟨h1, h2, h3⟩
    refine ⟨fun _ => h1, h2, fun i hi => h3 ⟨i, ?_⟩⟩
    rw [List.getElem?_map, List.getElem?_map, low45, low45]
    exact hi
  · rintro ⟨h1, h2, h3⟩
    refine ⟨h1 rfl, h2, fun ⟨i, hi⟩ => h3 i ?_⟩
    rw [List.getElem?_map, List.getElem?_map, low45, low45] at hi
    exact hi
theorem show_nd (l : List UInt8) : showR (nd l) [] 0 ((dp l 0).map fun x : Nat => (x : Int)) = if okT false l = true then (l, 0) else ([], 1) := by
  rw [show_dp l (nd l) [] 0 0 rfl (Nat.le_refl _) (Nat.zero_le _), decide_eq_false (Nat.lt_irrefl 0)]
  rfl
def readS (l : List UInt8) : List UInt8 × List Int × Int := if excB (lowS l) = true then (nd l, (dp l 0).map (fun x : Nat => (x : Int)), 0) else ([], [], 4)
def rB (r : List UInt8 × List Int × Int) : ByteArray × List Int × Int := (B r.1, r.2.1, r.2.2)
theorem rread_f (l : List UInt8) (hn : l.length ≤ 1048576) : Ev (fun k => frisketref09_Read.f k (B l)) (rB (readS l)) := by
  refine Ev.bind (f := fun k t436 => (frisketref09_Exception.f k t436).bind fun t437 => (if t437 = true then ((frisketref09_bare.f k (B l)).bind fun bt438 => (some (bt438.1, bt438.2, 0))) else (some ((⟨#[]⟩ : ByteArray), ([] : List Int), 4)))) (lower_f l (by omega)) ?_
  refine Ev.bind (f := fun k (t437 : Bool) => if t437 = true then ((frisketref09_bare.f k (B l)).bind fun bt438 => (some (bt438.1, bt438.2, 0))) else (some ((⟨#[]⟩ : ByteArray), ([] : List Int), 4))) (rexc_f (lowS l) (by rw [lowS_length]; exact hn)) ?_
  unfold readS
  by_cases h : excB (lowS l) = true
  · rw [if_pos h]
    refine Ev.congr (fun k => if_pos h) (Ev.bind (f := fun _ (b : ByteArray × List Int) => some (b.1, b.2, 0)) (bare_f l hn) (Ev.now _))
  · rw [if_neg h]
    exact Ev.congr (f := fun _ => some (rB ([], [], 4))) (fun k => by rw [if_neg h]; rfl) (Ev.now _)
end Go.Proofs.YtmjglgbkigjfkaaDoor.Pure
