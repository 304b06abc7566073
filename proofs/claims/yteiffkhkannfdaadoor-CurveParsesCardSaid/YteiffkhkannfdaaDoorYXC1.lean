/- Layer 19, the plain law: a text cut at spaces; numbers and their digits. -/
import Derived.Test.YteiffkhkannfdaaDoorYXPar
import Derived.Test.YteiffkhkannfdaaDoorYXRepl
set_option linter.unusedVariables false
set_option linter.unusedSimpArgs false
namespace Go.Proofs.YteiffkhkannfdaaDoor.Pure
open Go.RowKit Go.Proofs.YteiffkhkannfdaaDoor Go.Proofs.YteiffkhkannfdaaDoorW.PrintWords Go.Proofs.YteiffkhkannfdaaDoorW.PrintLast Go.Proofs.YteiffkhkannfdaaDoorW.PrintMore
/-- A text cut at spaces. -/
def cutL : List UInt8 → List (List UInt8)
  | [] => [[]]
  | b :: l => if b = 32 then [] :: cutL l else match cutL l with
    | [] => [[b]]
    | h :: t => (b :: h) :: t
theorem cutL_ne : ∀ (l : List UInt8), cutL l ≠ []
  | [] => by simp [cutL]
  | b :: l => by
    rw [cutL]
    split
    · simp
    · split <;> simp
theorem cutL_word : ∀ (w : List UInt8), 32 ∉ w → cutL w = [w]
  | [], _ => rfl
  | b :: w, h => by
    rw [cutL, if_neg (fun e => h (by rw [e]; simp)), cutL_word w (fun e => h (List.mem_cons_of_mem _ e))]
theorem cutL_app : ∀ (w r : List UInt8), 32 ∉ w → cutL (w ++ 32 :: r) = w :: cutL r
  | [], r, _ => by simp [cutL]
  | b :: w, r, h => by
    rw [List.cons_append, cutL, if_neg (fun e => h (by rw [e]; simp)), cutL_app w r (fun e => h (List.mem_cons_of_mem _ e))]
/-- The words, each behind a space. -/
def tailL (ws : List (List UInt8)) : List UInt8 := ws.flatMap fun w => 32 :: w
theorem cutL_join : ∀ (l : List UInt8), ∃ u vs, cutL l = u :: vs ∧ l = u ++ tailL vs ∧ 32 ∉ u ∧ (∀ v ∈ vs, 32 ∉ v)
  | [] => ⟨[], [], rfl, rfl, by simp, by simp⟩
  | b :: l => by
    obtain ⟨u, vs, h1, h2, h3, h4⟩ := cutL_join l
    by_cases hb : b = 32
    · refine ⟨[], u :: vs, by rw [cutL, if_pos hb, h1], ?_, by simp, ?_⟩
      · rw [hb, h2]; simp [tailL]
      · intro v hv
        rcases List.mem_cons.1 hv with rfl | hv
        · exact h3
        · exact h4 v hv
    · refine ⟨b :: u, vs, by rw [cutL, if_neg hb, h1], by rw [List.cons_append, ← h2], ?_, h4⟩
      intro h
      rcases List.mem_cons.1 h with h | h
      · exact hb h.symm
      · exact h3 h
theorem cutL_back : ∀ (vs : List (List UInt8)) (u : List UInt8), 32 ∉ u → (∀ v ∈ vs, 32 ∉ v) → cutL (u ++ tailL vs) = u :: vs
  | [], u, hu, _ => by rw [tailL, List.flatMap_nil, List.append_nil]; exact cutL_word u hu
  | v :: vs, u, hu, hv => by
    have e : tailL (v :: vs) = 32 :: (v ++ tailL vs) := by simp [tailL]
    rw [e, cutL_app u _ hu, cutL_back vs v (hv v (by simp)) (fun x hx => hv x (List.mem_cons_of_mem _ hx))]
theorem cutL_len (l : List UInt8) : (cutL l).length ≤ l.length + 1 := by
  induction l with
  | nil => simp [cutL]
  | cons b l ih =>
    rw [cutL]
    split
    · simp only [List.length_cons]; omega
    · cases h : cutL l with
      | nil => simp
      | cons a t => rw [h] at ih; simp only [List.length_cons] at ih ⊢; omega
theorem indexB_B (l : List UInt8) : Lib.indexB (B l) ⟨#[32]⟩ = Lib.indexByte l 32 := by
  unfold Lib.indexB
  rw [data_B]
  exact Lib.index_one l 32
theorem splitW_B : ∀ (n : Nat) (l : List UInt8), l.length ≤ n → splitW (B l) = (cutL l).map B := by
  intro n
  induction n with
  | zero =>
    intro l hl
    have h0 : l = [] := List.eq_nil_of_length_eq_zero (by omega)
    subst h0
    have hc : Lib.countB (B []) ⟨#[32]⟩ = 0 := Lib.countB_miss _ _ (by rw [indexB_B]; rfl)
    unfold splitW
    rw [hc]
    rfl
  | succ n ih =>
    intro l hl
    rcases idx_split l 32 with ⟨hm, hx⟩ | ⟨u, v, rfl, hu, hx⟩
    · have hc : Lib.countB (B l) ⟨#[32]⟩ = 0 := Lib.countB_miss _ _ (by rw [indexB_B, hx])
      unfold splitW
      rw [hc, cutL_word l hm]
      rfl
    · have hi : Lib.indexB (B (u ++ 32 :: v)) ⟨#[32]⟩ = (u.length : Int) := by rw [indexB_B, hx]
      have hz : (⟨#[32]⟩ : ByteArray).size = 1 := rfl
      have he : (B (u ++ 32 :: v)).extract (u.length + 1) (B (u ++ 32 :: v)).size = B v := by
        rw [extract_B, size_B]
        congr 1
        rw [List.take_of_length_le (by rw [List.length_drop]; omega), ← List.drop_drop, List.drop_left' rfl]
        rfl
      have hc := Lib.countB_hit (B (u ++ 32 :: v)) ⟨#[32]⟩ u.length (by decide) hi
      rw [hz, he] at hc
      have h2 := ih v (by rw [List.length_append, List.length_cons] at hl; omega)
      unfold splitW at h2 ⊢
      rw [hc, Nat.add_comm, Lib.splitB_hit _ _ _ _ _ hi, hz, he, h2, cutL_app u v hu, Nat.add_zero, extract_B]
      simp
/-! ### Digits -/
def digB (b : UInt8) : Prop := 48 ≤ b.toNat ∧ b.toNat ≤ 57
def valL (acc : Nat) (l : List UInt8) : Nat := l.foldl (fun a b => a * 10 + (b.toNat - 48)) acc
theorem dg_toNat {u : Nat} (h : u < 10) : (UInt8.ofNat (48 + u)).toNat = 48 + u := by
  rw [UInt8.toNat_ofNat']; omega
theorem dec_digs : ∀ (n u : Nat), u ≤ n → ∀ b ∈ Lib.decDigits u, digB b := by
  intro n
  induction n with
  | zero =>
    intro u hu b hb
    rw [Lib.decDigits, dif_pos (by omega)] at hb
    rw [List.mem_singleton.1 hb, digB, dg_toNat (by omega)]
    omega
  | succ n ih =>
    intro u hu b hb
    rw [Lib.decDigits] at hb
    split at hb
    · rw [List.mem_singleton.1 hb, digB, dg_toNat (by omega)]
      omega
    · rcases List.mem_append.1 hb with hb | hb
      · exact ih (u / 10) (by omega) b hb
      · rw [List.mem_singleton.1 hb, digB, dg_toNat (by omega)]
        omega
theorem dec_val : ∀ (n u : Nat), u ≤ n → valL 0 (Lib.decDigits u) = u := by
  intro n
  induction n with
  | zero =>
    intro u hu
    rw [Lib.decDigits, dif_pos (by omega)]
    simp only [valL, List.foldl_cons, List.foldl_nil]
    rw [dg_toNat (by omega)]
    omega
  | succ n ih =>
    intro u hu
    rw [Lib.decDigits]
    split
    · simp only [valL, List.foldl_cons, List.foldl_nil]
      rw [dg_toNat (by omega)]
      omega
    · have := ih (u / 10) (by omega)
      unfold valL at this ⊢
      rw [List.foldl_append, this]
      simp only [List.foldl_cons, List.foldl_nil]
      rw [dg_toNat (by omega)]
      omega
theorem dec_ne (u : Nat) : Lib.decDigits u ≠ [] := by
  rw [Lib.decDigits]
  split <;> simp
theorem dec_len : ∀ (k u : Nat), u < 10 ^ (k + 1) → (Lib.decDigits u).length ≤ k + 1
  | 0, u, h => by rw [Lib.decDigits, dif_pos (by omega)]; simp
  | k + 1, u, h => by
    rw [Lib.decDigits]
    split
    · simp
    · rw [List.length_append, List.length_singleton]
      have := dec_len k (u / 10) (by rw [Nat.pow_succ] at h; omega)
      omega
theorem val_ge : ∀ (l : List UInt8) (acc : Nat), acc ≤ valL acc l
  | [], acc => Nat.le_refl _
  | b :: l, acc => by
    have := val_ge l (acc * 10 + (b.toNat - 48))
    unfold valL at this ⊢
    rw [List.foldl_cons]
    omega
theorem parse_val : ∀ (l : List UInt8) (acc : Nat), (∀ b ∈ l, digB b) → valL acc l < 1844674407370955162 → Lib.parseUint10 acc l = .ok (valL acc l)
  | [], acc, _, _ => rfl
  | b :: l, acc, hd, hv => by
    have h1 := hd b (by simp)
    unfold digB at h1
    have h2 := val_ge l (acc * 10 + (b.toNat - 48))
    have h3 := val_ge (b :: l) acc
    have e : valL acc (b :: l) = valL (acc * 10 + (b.toNat - 48)) l := rfl
    rw [Lib.parseUint10, if_pos h1, if_neg (by omega), if_neg (by omega), e]
    exact parse_val l _ (fun x hx => hd x (List.mem_cons_of_mem _ hx)) (by rw [← e]; exact hv)
theorem atoi_itoa (x : Int) (h : -1000000000 ≤ x ∧ x ≤ 1000000000) : Lib.atoiAll (Lib.itoa x) = .ok x := by
  unfold Lib.itoa
  by_cases hx : x < 0
  · rw [if_pos hx]
    have hv := dec_val _ x.natAbs (Nat.le_refl _)
    have hp : Lib.parseMag (Lib.decDigits x.natAbs) = .ok x.natAbs := by
      unfold Lib.parseMag
      rw [if_neg (dec_ne _), parse_val _ _ (dec_digs _ _ (Nat.le_refl _)) (by rw [hv]; omega), hv]
    have e45 : (45 : UInt8).toNat = 45 := rfl
    unfold Lib.atoiAll
    simp only [e45]
    rw [if_pos (.inr trivial), hp]
    simp only
    rw [if_neg (by simp), if_neg (by simp; omega), if_pos trivial]
    congr 1
    omega
  · rw [if_neg hx]
    have hv := dec_val _ x.toNat (Nat.le_refl _)
    have hp : Lib.parseMag (Lib.decDigits x.toNat) = .ok x.toNat := by
      unfold Lib.parseMag
      rw [if_neg (dec_ne _), parse_val _ _ (dec_digs _ _ (Nat.le_refl _)) (by rw [hv]; omega), hv]
    have hd := dec_digs _ x.toNat (Nat.le_refl _)
    cases hl : Lib.decDigits x.toNat with
    | nil => exact absurd hl (dec_ne _)
    | cons c r =>
      rw [hl] at hp hd
      have hc := hd c (by simp)
      unfold digB at hc
      unfold Lib.atoiAll
      simp only
      rw [if_neg (by omega), hp]
      simp only
      rw [if_neg (by omega), if_neg (by omega), if_neg (by omega)]
      congr 1
      omega
theorem itoa_no32 (x : Int) : 32 ∉ Lib.itoa x := by
  intro h
  unfold Lib.itoa at h
  split at h
  · rcases List.mem_cons.1 h with h | h
    · exact absurd h (by decide)
    · have := dec_digs _ _ (Nat.le_refl _) _ h
      exact absurd this (by unfold digB; decide)
  · have := dec_digs _ _ (Nat.le_refl _) _ h
    exact absurd this (by unfold digB; decide)
theorem itoa_inj {x y : Int} (hx : -1000000000 ≤ x ∧ x ≤ 1000000000) (hy : -1000000000 ≤ y ∧ y ≤ 1000000000) (h : Lib.itoa x = Lib.itoa y) : x = y := by
  have h1 := atoi_itoa x hx
  rw [h, atoi_itoa y hy] at h1
  injection h1 with h1
  exact h1.symm
end Go.Proofs.YteiffkhkannfdaaDoor.Pure
