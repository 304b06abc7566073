/- Layer 19, the plain law: the specification's numbers. -/
import Derived.Test.YteiffkhkannfdaaDoorYXC1
import Derived.Test.YteiffkhkannfdaaDoorYb0
import Derived.Test.YteiffkhkannfdaaDoorYb1
import Derived.Test.YteiffkhkannfdaaDoorYb2
set_option linter.unusedVariables false
set_option linter.unusedSimpArgs false
namespace Go.Proofs.YteiffkhkannfdaaDoor.Pure
open Go.RowKit Go.Proofs.YteiffkhkannfdaaDoor Go.Proofs.YteiffkhkannfdaaDoor.Xb Go.Proofs.YteiffkhkannfdaaDoorW.PrintWords Go.Proofs.YteiffkhkannfdaaDoorW.PrintLast Go.Proofs.YteiffkhkannfdaaDoorW.PrintMore
theorem nums_k (k : UInt8) : strOfNums [(k.toNat : Int)] = B [k] := by
  simp [strOfNums, B]
theorem nums_m (x : Int) (m : Nat) (hm : m < 10) (h : x % 256 = ((48 + m : Nat) : Int)) : strOfNums [x % 256] = B [UInt8.ofNat (48 + m)] := by
  rw [← nums_k, dg_toNat hm, h]
theorem rdigits_l : ∀ (n u : Nat), u ≤ n → u ≤ 1000000000000000000 → ∀ (s : List UInt8), s.length + u ≤ 2000000000000000000 →
    Ev (fun k => frisketref01_Digits.l0 k (u : Int) (B s)) (B ((if 9 < u then Lib.decDigits (u / 10) else []) ++ s)) := by
  intro n
  induction n with
  | zero =>
    intro u hu _ s hs
    refine Ev.done (fun k => ?_)
    rw [frisketref01_Digits.l0, if_neg (by omega), if_neg (by omega)]
    rfl
  | succ n ih =>
    intro u hu hm s hs
    by_cases h9 : 9 < u
    · rw [if_pos h9]
      have e1 : wrap64 (Int.tdiv (u : Int) 10) = ((u / 10 : Nat) : Int) := by rw [Int.tdiv_eq_ediv_of_nonneg (by omega), w64 (by omega) (by omega)]; omega
      have e2 : strOfNums [(wrap64 (48 + Int.tmod (wrap64 (Int.tdiv (u : Int) 10)) 10)) % 256] = B [UInt8.ofNat (48 + u / 10 % 10)] := by
        refine nums_m _ _ (by omega) ?_
        rw [e1, Int.tmod_eq_emod_of_nonneg (by omega), w64 (by omega) (by omega)]
        omega
      have h2 := ih (u / 10) (by omega) (by omega) (UInt8.ofNat (48 + u / 10 % 10) :: s) (by rw [List.length_cons]; omega)
      have e3 : (if 9 < u / 10 then Lib.decDigits (u / 10 / 10) else []) ++ UInt8.ofNat (48 + u / 10 % 10) :: s = Lib.decDigits (u / 10) ++ s := by
        rw [Lib.decDigits.eq_def (u / 10)]
        by_cases h10 : u / 10 < 10
        · rw [if_neg (by omega), dif_pos h10, Nat.mod_eq_of_lt h10]
          rfl
        · rw [if_pos (by omega), dif_neg h10, List.append_assoc]
          rfl
      rw [e3] at h2
      refine Ev.goes h2 (fun k => ?_)
      rw [frisketref01_Digits.l0, if_pos (by omega), Option.bind_some, e2, size_B, size_B, if_pos (by simp; omega), e1, append_B]
      rfl
    · rw [if_neg h9]
      refine Ev.done (fun k => ?_)
      rw [frisketref01_Digits.l0, if_neg (by omega)]
      rfl
theorem rdigits_f (u : Nat) (hu : u ≤ 1000000000000000000) : Ev (fun k => frisketref01_Digits.f k (u : Int)) (B (Lib.decDigits u)) := by
  have e2 : strOfNums [(wrap64 (48 + Int.tmod (u : Int) 10)) % 256] = B [UInt8.ofNat (48 + u % 10)] := by
    refine nums_m _ _ (by omega) ?_
    rw [Int.tmod_eq_emod_of_nonneg (by omega), w64 (by omega) (by omega)]
    omega
  have h := rdigits_l u u (Nat.le_refl _) hu [UInt8.ofNat (48 + u % 10)] (by simp; omega)
  have e3 : (if 9 < u then Lib.decDigits (u / 10) else []) ++ [UInt8.ofNat (48 + u % 10)] = Lib.decDigits u := by
    rw [Lib.decDigits.eq_def u]
    by_cases h10 : u < 10
    · rw [if_neg (by omega), dif_pos h10, Nat.mod_eq_of_lt h10]
      rfl
    · rw [if_pos (by omega), dif_neg h10]
  rw [e3] at h
  refine Ev.congr (fun k => ?_) h
  rw [frisketref01_Digits.f, e2]
theorem rsign_l : ∀ (n m : Nat), m ≤ n → m ≤ 1000000000000000000 → ∀ (s : List UInt8), s.length + m ≤ 2000000000000000000 →
    Ev (fun k => frisketref07_Signed.l0 k (-(m : Int)) (B s)) (B (45 :: ((if m = 0 then [] else Lib.decDigits m) ++ s))) := by
  have hbase : ∀ (s : List UInt8), s.length ≤ 2000000000000000000 → Ev (fun k => frisketref07_Signed.l0 k (-((0 : Nat) : Int)) (B s)) (B (45 :: ((if (0 : Nat) = 0 then [] else Lib.decDigits 0) ++ s))) := by
    intro s hs
    refine Ev.done (fun k => ?_)
    rw [frisketref07_Signed.l0, if_neg (by omega), if_pos (by rw [size_B]; omega), show (⟨#[45]⟩ : ByteArray) = B [45] from rfl, append_B]
    rfl
  intro n
  induction n with
  | zero =>
    intro m hm _ s hs
    obtain rfl : m = 0 := by omega
    exact hbase s (by omega)
  | succ n ih =>
    intro m hm hb s hs
    by_cases h0 : m = 0
    · subst h0
      exact hbase s (by omega)
    · rw [if_neg h0]
      have e1 : wrap64 (Int.tdiv (-(m : Int)) 10) = -((m / 10 : Nat) : Int) := by
        rw [Int.neg_tdiv, Int.tdiv_eq_ediv_of_nonneg (by omega), w64 (by omega) (by omega)]; omega
      have e2 : strOfNums [(wrap64 (48 - Int.tmod (-(m : Int)) 10)) % 256] = B [UInt8.ofNat (48 + m % 10)] := by
        refine nums_m _ _ (by omega) ?_
        rw [Int.neg_tmod, Int.tmod_eq_emod_of_nonneg (by omega), w64 (by omega) (by omega)]
        omega
      have h2 := ih (m / 10) (by omega) (by omega) (UInt8.ofNat (48 + m % 10) :: s) (by rw [List.length_cons]; omega)
      have e3 : (if m / 10 = 0 then [] else Lib.decDigits (m / 10)) ++ UInt8.ofNat (48 + m % 10) :: s = Lib.decDigits m ++ s := by
        rw [Lib.decDigits.eq_def m]
        by_cases h10 : m < 10
        · rw [if_pos (by omega), dif_pos h10, Nat.mod_eq_of_lt h10]
          rfl
        · rw [if_neg (by omega), dif_neg h10, List.append_assoc]
          rfl
      rw [e3] at h2
      refine Ev.goes h2 (fun k => ?_)
      rw [frisketref07_Signed.l0, if_pos (by omega), Option.bind_some, e2, size_B, size_B, if_pos (by simp; omega), e1, append_B]
      rfl
theorem rsigned_f (x : Int) (h : -1000000000000000000 ≤ x ∧ x ≤ 1000000000000000000) : Ev (fun k => frisketref07_Signed.f k x) (B (Lib.itoa x)) := by
  unfold Lib.itoa
  by_cases hx : x < 0
  · rw [if_pos hx]
    have h2 := rsign_l x.natAbs x.natAbs (Nat.le_refl _) (by omega) [] (by simp; omega)
    rw [if_neg (by omega), List.append_nil, show -(x.natAbs : Int) = x by omega] at h2
    refine Ev.congr (fun k => ?_) h2
    rw [frisketref07_Signed.f, if_neg (by omega)]
    rfl
  · rw [if_neg hx]
    have h2 := rdigits_f x.toNat (by omega)
    rw [show (x.toNat : Int) = x by omega] at h2
    refine Ev.bindNow (F := fun _ t => some t) h2 (fun k => ?_) (Ev.now _)
    rw [frisketref07_Signed.f, if_pos (by omega)]
def isDig (b : UInt8) : Bool := decide (48 ≤ b.toNat) && decide (b.toNat ≤ 57)
theorem isDig_iff (b : UInt8) : isDig b = true ↔ digB b := by unfold isDig digB; simp
def sg (a : Nat) (x : Nat) : Int := if a = 1 then -(x : Int) else (x : Int)
def wholeR (v : List UInt8) (a acc i : Nat) : Int × Bool :=
  if (v.drop i).all isDig = true ∧ v.length ≤ a + 9 then (sg a (valL acc (v.drop i)), (B (Lib.itoa (sg a (valL acc (v.drop i))))).toList == (B v).toList) else (0, false)
theorem whole_l (v : List UInt8) (hn : v.length ≤ 100000) (a : Nat) (ha : a = 0 ∨ a = 1) : ∀ (d i acc : Nat), i + d = v.length → a ≤ i → i ≤ a + 9 → acc < 10 ^ (i - a) →
    Ev (fun k => frisketref07_Whole.l0 k (B v) (acc : Int) (a : Int) (i : Int)) (wholeR v a acc i)
  | 0, i, acc, hi, hai, h9, hb => by
    have hp : 10 ^ (i - a) ≤ 10 ^ 9 := Nat.pow_le_pow_right (by decide) (by omega)
    have hx : acc < 1000000000 := by omega
    have e : wholeR v a acc i = (sg a acc, (B (Lib.itoa (sg a acc))).toList == (B v).toList) := by
      unfold wholeR
      rw [List.drop_of_length_le (by omega), if_pos ⟨rfl, by omega⟩]
      rfl
    rw [e]
    rcases ha with rfl | rfl
    · have h2 := rsigned_f (acc : Int) (by omega)
      refine Ev.bindStep (F := ?_) h2 (fun k => ?_) ?_
      rotate_left 1
      · rw [frisketref07_Whole.l0, if_neg (by rw [size_B]; omega), if_neg (by omega)]
      exact Ev.now _
    · have h2 := rsigned_f (-(acc : Int)) (by omega)
      have e1 : wrap64 (-(acc : Int)) = -(acc : Int) := w64 (by omega) (by omega)
      refine Ev.bindStep (F := ?_) h2 (fun k => ?_) ?_
      rotate_left 1
      · rw [frisketref07_Whole.l0, if_neg (by rw [size_B]; omega), if_pos (by omega), e1]
      exact Ev.now _
  | d + 1, i, acc, hi, hai, h9, hb => by
    have hlt : i < v.length := by omega
    have hp : 10 ^ (i - a) ≤ 10 ^ 9 := Nat.pow_le_pow_right (by decide) (by omega)
    have hx : acc < 1000000000 := by omega
    have hd : v.drop i = v[i] :: v.drop (i + 1) := List.drop_eq_getElem_cons hlt
    by_cases c1 : v[i].toNat < 48
    · have e : wholeR v a acc i = (0, false) := by
        unfold wholeR
        rw [hd, List.all_cons, show isDig v[i] = false by unfold isDig; simp; omega]
        rw [if_neg (by simp)]
      rw [e]
      refine Ev.done (fun k => ?_)
      rw [frisketref07_Whole.l0, if_pos (by rw [size_B]; omega), if_pos (by omega), bt_B v i hlt, if_pos (by omega)]
    · by_cases c2 : v[i].toNat > 57
      · have e : wholeR v a acc i = (0, false) := by
          unfold wholeR
          rw [hd, List.all_cons, show isDig v[i] = false by unfold isDig; simp; omega]
          rw [if_neg (by simp)]
        rw [e]
        refine Ev.done (fun k => ?_)
        rw [frisketref07_Whole.l0, if_pos (by rw [size_B]; omega), if_pos (by omega), bt_B v i hlt, if_neg (by omega), if_pos (by omega)]
      · by_cases c3 : i - a ≥ 9
        · have e : wholeR v a acc i = (0, false) := by
            unfold wholeR
            rw [if_neg (by omega)]
          rw [e]
          refine Ev.done (fun k => ?_)
          rw [frisketref07_Whole.l0, if_pos (by rw [size_B]; omega), if_pos (by omega), bt_B v i hlt, if_neg (by omega), if_neg (by omega), if_pos (by rw [w64 (by omega) (by omega)]; omega)]
        · have e : wholeR v a acc i = wholeR v a (acc * 10 + (v[i].toNat - 48)) (i + 1) := by
            unfold wholeR
            rw [hd, List.all_cons, show isDig v[i] = true by unfold isDig; simp; omega, Bool.true_and]
            rfl
          have hpw : 10 ^ (i + 1 - a) = 10 ^ (i - a) * 10 := by rw [show i + 1 - a = (i - a) + 1 by omega, Nat.pow_succ]
          rw [e]
          refine Ev.goes (whole_l v hn a ha d (i + 1) (acc * 10 + (v[i].toNat - 48)) (by omega) (by omega) (by omega) (by omega)) (fun k => ?_)
          have ew : wrap64 (wrap64 ((acc : Int) * 10) + ((v[i].toNat : Int) - 48) % 256) = ((acc * 10 + (v[i].toNat - 48) : Nat) : Int) := by
            rw [w64 (x := (acc : Int) * 10) (by omega) (by omega), w64 (by omega) (by omega)]; omega
          rw [frisketref07_Whole.l0, if_pos (by rw [size_B]; omega), if_pos (by omega), bt_B v i hlt, if_neg (by omega), if_neg (by omega), if_neg (by rw [w64 (by omega) (by omega)]; omega), ew, w64s hlt (by omega)]
theorem whole_j (v : List UInt8) (hn : v.length ≤ 100000) (a : Nat) (ha : a = 0 ∨ a = 1) (hv : a ≤ v.length) (t : Bool) (ht : t = decide (a = 1)) : Ev (fun k => frisketref07_Whole.j0 k (B v) 0 0 t) (wholeR v a 0 a) := by
  have h := whole_l v hn a ha (v.length - a) a 0 (by omega) (Nat.le_refl _) (by omega) (by simp)
  have hj : Ev (fun k => frisketref07_Whole.j1 k (B v) 0 (a : Int)) (wholeR v a 0 a) := Ev.goes h (fun k => by rw [frisketref07_Whole.j1]; rfl)
  refine Ev.goes hj (fun k => ?_)
  subst ht
  rcases ha with rfl | rfl
  · rw [frisketref07_Whole.j0, if_neg (by decide)]; rfl
  · rw [frisketref07_Whole.j0, if_pos (by decide)]; rfl
def neg45 (v : List UInt8) : Nat := match v with | [] => 0 | b :: _ => if b = 45 then 1 else 0
theorem eqn (c : UInt8) (n : Int) (m : UInt8) (hn : (m.toNat : Int) = n) : ((c.toNat : Int) = n) ↔ c = m := by
  constructor
  · intro h; exact UInt8.toNat_inj.1 (by omega)
  · intro h; rw [h]; exact hn
theorem whole_f (v : List UInt8) (hn : v.length ≤ 100000) : Ev (fun k => frisketref07_Whole.f k (B v)) (wholeR v (neg45 v) 0 (neg45 v)) := by
  cases v with
  | nil =>
    have h := whole_j [] (by simp) 0 (.inl rfl) (Nat.le_refl _) false (by decide)
    refine Ev.congr (fun k => ?_) h
    rw [frisketref07_Whole.f, if_pos (by rw [toList_B])]
  | cons b l =>
    by_cases hb : b = 45
    · have h := whole_j (b :: l) hn 1 (.inr rfl) (by simp) true (by decide)
      rw [show neg45 (b :: l) = 1 by simp [neg45, hb]]
      refine Ev.congr (fun k => ?_) h
      rw [frisketref07_Whole.f, if_neg (by rw [toList_B]; simp), if_pos (by rw [size_B, List.length_cons]; omega), show bt (B (b :: l)) 0 = _ from bt_B (b :: l) 0 (by simp), beq_iff_eq.2 ((eqn _ 45 45 rfl).2 (show (b :: l)[0] = 45 from hb))]
    · have h := whole_j (b :: l) hn 0 (.inl rfl) (by simp) false (by decide)
      rw [show neg45 (b :: l) = 0 by simp [neg45, hb]]
      refine Ev.congr (fun k => ?_) h
      rw [frisketref07_Whole.f, if_neg (by rw [toList_B]; simp), if_pos (by rw [size_B, List.length_cons]; omega), show bt (B (b :: l)) 0 = _ from bt_B (b :: l) 0 (by simp), beq_eq_false_iff_ne.2 (show ¬ ((((b :: l)[0]'(by simp)).toNat : Int) = 45) from fun h => hb ((eqn _ 45 45 rfl).1 h))]
theorem val_lt : ∀ (l : List UInt8) (acc : Nat), (∀ b ∈ l, digB b) → valL acc l < (acc + 1) * 10 ^ l.length
  | [], acc, _ => by simp [valL]
  | b :: l, acc, h => by
    have h1 := h b (by simp)
    unfold digB at h1
    have ih := val_lt l (acc * 10 + (b.toNat - 48)) (fun x hx => h x (List.mem_cons_of_mem _ hx))
    have e : valL acc (b :: l) = valL (acc * 10 + (b.toNat - 48)) l := rfl
    rw [e, List.length_cons, Nat.pow_succ]
    refine Nat.lt_of_lt_of_le ih ?_
    rw [Nat.mul_comm (10 ^ l.length) 10, ← Nat.mul_assoc]
    exact Nat.mul_le_mul_right _ (by omega)
theorem neg45_le (v : List UInt8) : (neg45 v = 0 ∨ neg45 v = 1) ∧ neg45 v ≤ v.length := by
  cases v with
  | nil => simp [neg45]
  | cons b l => unfold neg45; simp only; split <;> simp
theorem whole_spec (v : List UInt8) (hn : v.length ≤ 100000) : ∃ (x : Int) (b : Bool), Ev (fun k => frisketref07_Whole.f k (B v)) (x, b) ∧ (b = true → v = Lib.itoa x ∧ -1000000000 ≤ x ∧ x ≤ 1000000000) ∧ (∀ y, -1000000 ≤ y ∧ y ≤ 1000000 → v = Lib.itoa y → x = y ∧ b = true) := by
  obtain ⟨hn1, hn2⟩ := neg45_le v
  have hf := whole_f v hn
  generalize hw : wholeR v (neg45 v) 0 (neg45 v) = q at hf
  obtain ⟨x, b⟩ := q
  refine ⟨x, b, hf, ?_, ?_⟩
  · intro hb
    unfold wholeR at hw
    split at hw
    · rename_i hc
      injection hw with hw1 hw2
      subst hw1
      rw [hb] at hw2
      have hb := hw2
      have hd : ∀ b ∈ v.drop (neg45 v), digB b := fun b hb => (isDig_iff b).1 (List.all_eq_true.1 hc.1 b hb)
      have hl := val_lt (v.drop (neg45 v)) 0 hd
      have hp : 10 ^ (v.drop (neg45 v)).length ≤ 10 ^ 9 := Nat.pow_le_pow_right (by decide) (by rw [List.length_drop]; omega)
      rw [Nat.zero_add, Nat.one_mul] at hl
      have h2 := toList_inj (beq_iff_eq.1 hb)
      refine ⟨(B_inj h2).symm, ?_⟩
      unfold sg
      split <;> omega
    · injection hw with _ hw2
      rw [hb] at hw2
      cases hw2
  · intro y hy hv
    have key : wholeR v (neg45 v) 0 (neg45 v) = (y, true) := by
      by_cases h0 : y < 0
      · have ev : v = 45 :: Lib.decDigits y.natAbs := by rw [hv]; unfold Lib.itoa; rw [if_pos h0]
        have hd := dec_digs _ y.natAbs (Nat.le_refl _)
        have hval := dec_val _ y.natAbs (Nat.le_refl _)
        have hlen := dec_len 6 y.natAbs (by omega)
        have e1 : neg45 v = 1 := by rw [ev]; rfl
        unfold wholeR
        rw [e1]
        have e2 : v.drop 1 = Lib.decDigits y.natAbs := by rw [ev]; rfl
        rw [e2, hval, if_pos ⟨List.all_eq_true.2 (fun b hb => (isDig_iff b).2 (hd b hb)), by rw [ev, List.length_cons]; omega⟩]
        have e3 : sg 1 y.natAbs = y := by unfold sg; rw [if_pos rfl]; omega
        rw [e3, ← hv]
        simp
      · have ev : v = Lib.decDigits y.toNat := by rw [hv]; unfold Lib.itoa; rw [if_neg h0]
        have hd := dec_digs _ y.toNat (Nat.le_refl _)
        have hval := dec_val _ y.toNat (Nat.le_refl _)
        have hlen := dec_len 6 y.toNat (by omega)
        have e1 : neg45 v = 0 := by
          rw [ev]
          cases hl : Lib.decDigits y.toNat with
          | nil => rfl
          | cons c r =>
            have hc := hd c (by rw [hl]; simp)
            unfold digB at hc
            unfold neg45
            simp only
            rw [if_neg (fun h => by rw [h] at hc; exact absurd hc (by decide))]
        unfold wholeR
        rw [e1, List.drop_zero]
        have hval' : valL 0 v = y.toNat := by rw [ev]; exact hval
        rw [hval', if_pos ⟨List.all_eq_true.2 (fun b hb => (isDig_iff b).2 (hd b (by rw [← ev]; exact hb))), by rw [ev]; omega⟩]
        have e3 : sg 0 y.toNat = y := by unfold sg; rw [if_neg (by decide)]; omega
        rw [e3, ← hv]
        simp
    rw [hw] at key
    injection key with k1 k2
    exact ⟨k1, k2⟩
/-! ### Valid -/
theorem rvalid_l (c : Int) (l : List Int) (hn : l.length ≤ 1000000) : ∀ (d i : Nat), i + d = l.length → (∀ x ∈ l.take i, farB x = false) → Ev (fun k => frisketref19_Valid.l0 k c l (i : Int)) (validF c l)
  | 0, i, hi, hx => by
    have hfar : l.any farB = false := by
      rw [List.take_of_length_le (by omega)] at hx
      exact List.any_eq_false.2 (fun x h => by rw [hx x h]; decide)
    unfold validF
    rw [hfar, if_neg Bool.false_ne_true]
    refine Ev.done (fun k => ?_)
    rw [frisketref19_Valid.l0, if_neg (by omega)]
    have hlow1 (a : Int) : [a].any lowB = decide (a < 0) := by simp [lowB]
    have hge (a : Int) : decide (a ≥ 0) = !decide (a < 0) := by
      by_cases h : a < 0
      · rw [decide_eq_true h, decide_eq_false (by omega)]; rfl
      · rw [decide_eq_false h, decide_eq_true (by omega)]; rfl
    have hlen (m : Nat) : decide (l.length = m) = ((l.length : Int) == (m : Int)) := by
      by_cases h : l.length = m
      · rw [decide_eq_true h, beq_iff_eq.2 (by omega)]
      · rw [decide_eq_false h, beq_eq_false_iff_ne.2 (by omega)]
    by_cases c1 : c = 108
    · rw [if_pos c1, if_pos c1, hlen 2]; rfl
    · rw [if_neg c1, if_neg c1]
      by_cases c2 : c = 99
      · rw [if_pos c2, if_pos c2]
        by_cases h1 : l.length = 1
        · obtain ⟨a, rfl⟩ := List.length_eq_one_iff.1 h1
          rw [if_pos (by simp), if_pos (by simp), hlow1, decide_eq_true h1, Bool.true_and, show rd [a] 0 = a from rfl, hge]
        · rw [if_neg (by omega), decide_eq_false h1, Bool.false_and]
      · rw [if_neg c2, if_neg c2]
        by_cases c3 : c = 101
        · rw [if_pos c3, if_pos c3]
          by_cases h1 : l.length = 2
          · obtain ⟨a, b, rfl⟩ : ∃ a b, l = [a, b] := by
              match l, h1 with
              | [a, b], _ => exact ⟨a, b, rfl⟩
            rw [if_pos (by simp), if_pos (by simp), decide_eq_true h1, Bool.true_and, show rd [a, b] 0 = a from rfl, show rd [a, b] 1 = b from rfl]
            by_cases ha : a ≥ 0
            · rw [if_pos ha, if_pos (by simp), hge]
              simp [lowB]
              omega
            · rw [if_neg ha]
              simp [lowB]
              omega
          · rw [if_neg (by omega), decide_eq_false h1, Bool.false_and]
        · rw [if_neg c3, if_neg c3]
          by_cases c4 : c = 97
          · rw [if_pos c4, if_pos c4, hlen 4]; rfl
          · rw [if_neg c4, if_neg c4]
            by_cases c5 : c = 126
            · rw [if_pos c5, decide_eq_true c5, Bool.true_and]
              by_cases h1 : 2 ≤ l.length
              · rw [if_pos (by omega), decide_eq_true h1, Bool.true_and]
                by_cases h2 : l.length % 2 = 0
                · rw [if_pos (by omega), decide_eq_true h2, Bool.true_and]
                  exact congrArg some (decide_eq_decide.2 (by omega))
                · rw [if_neg (by omega), decide_eq_false h2]; rfl
              · rw [if_neg (by omega), decide_eq_false h1]; rfl
            · rw [if_neg c5, decide_eq_false c5]; rfl
  | d + 1, i, hi, hx => by
    have hlt : i < l.length := by omega
    by_cases hf : farB l[i] = true
    · have hfar : l.any farB = true := List.any_eq_true.2 ⟨l[i], List.getElem_mem hlt, hf⟩
      have e : validF c l = false := by unfold validF; rw [if_pos hfar]
      rw [e]
      refine Ev.done (fun k => ?_)
      rw [frisketref19_Valid.l0, if_pos (by omega), if_pos (by omega), rd_at l i hlt]
      unfold farB at hf
      by_cases h1 : l[i] < -1000000
      · rw [if_pos h1]
      · rw [if_neg h1, if_pos (by simp at hf; omega)]
    · have hf' : farB l[i] = false := Bool.eq_false_iff.2 hf
      refine Ev.goes (rvalid_l c l hn d (i + 1) (by omega) (fun x hm => ?_)) (fun k => ?_)
      · rw [List.take_succ_eq_append_getElem hlt] at hm
        rcases List.mem_append.1 hm with h | h
        · exact hx x h
        · rw [List.mem_singleton.1 h]; exact hf'
      · unfold farB at hf'
        simp at hf'
        rw [frisketref19_Valid.l0, if_pos (by omega), if_pos (by omega), rd_at l i hlt, if_neg (by omega), if_neg (by omega), w64s hlt (by omega)]
theorem rvalid_f (c : Int) (l : List Int) (hn : l.length ≤ 1000000) : Ev (fun k => frisketref19_Valid.f k c l) (validF c l) := rvalid_l c l hn l.length 0 (by omega) (by simp)
end Go.Proofs.YteiffkhkannfdaaDoor.Pure
