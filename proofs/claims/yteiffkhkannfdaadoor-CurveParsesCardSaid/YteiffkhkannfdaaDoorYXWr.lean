/- The walk of curve.Write by hand. -/
import Derived.Lib.ItoaLen
import Derived.Lib.AppendIntMem
import Derived.Test.YteiffkhkannfdaaDoorYXVal2
set_option linter.unusedVariables false
set_option linter.unusedSimpArgs false
namespace Go.Proofs.YteiffkhkannfdaaDoor
open Go.RowKit Go.Proofs.YteiffkhkannfdaaDoorW.PrintWords Go.Proofs.YteiffkhkannfdaaDoorW.PrintLast Go.Proofs.YteiffkhkannfdaaDoorW.PrintMore Go.Proofs.YteiffkhkannfdaaDoor.Pure
set_option linter.unusedVariables false
set_option maxHeartbeats 4000000
set_option maxRecDepth 100000
theorem itoa_calls (x : Int) (h0 : -9223372036854775808 ≤ x) (h1 : x ≤ 9223372036854775807) (w : World) (G : GW w) :
    Calls Tryd.prog 18 #[.int .i64 x] w fun e w' => e = .returned (.string (B (Lib.itoa x))) ∧ Below w.heap.size w w' :=
  (Tryd.strconv_Itoa x h0 h1 w G.pows).mono fun e w' ⟨h1, k, os, h2⟩ => ⟨h1, h2 ▸ Lib.below_grow _ w (Nat.le_refl _) k os⟩
def wrL (a : UInt8) (l : List Int) : List UInt8 := a :: l.flatMap fun x => 32 :: Lib.itoa x
def wrF (a : UInt8) (l : List Int) : ByteArray × Int := if validF (a.toNat : Int) l = true then (B (wrL a l), 0) else (⟨#[]⟩, 1)
theorem valid_true {a : UInt8} {l : List Int} (h : validF (a.toNat : Int) l = true) : (a = 108 ∨ a = 99 ∨ a = 101 ∨ a = 97 ∨ a = 126) ∧ l.length ≤ 40 ∧ ∀ x ∈ l, -1000000 ≤ x ∧ x ≤ 1000000 := by
  unfold validF at h
  have hn (m : UInt8) (h : (a.toNat : Int) = (m.toNat : Int)) : a = m := UInt8.toNat_inj.1 (by omega)
  by_cases hf : l.any farB = true
  · rw [if_pos hf] at h; cases h
  · rw [if_neg hf] at h
    have hx : ∀ x ∈ l, -1000000 ≤ x ∧ x ≤ 1000000 := by
      intro x hx
      have : farB x ≠ true := fun h2 => hf (List.any_eq_true.2 ⟨x, hx, h2⟩)
      unfold farB at this
      simp at this
      omega
    split at h
    · rename_i h1; exact ⟨.inl (hn 108 h1), by simp at h; omega, hx⟩
    · split at h
      · rename_i h1; exact ⟨.inr (.inl (hn 99 h1)), by simp at h; omega, hx⟩
      · split at h
        · rename_i h1; exact ⟨.inr (.inr (.inl (hn 101 h1))), by simp at h; omega, hx⟩
        · split at h
          · rename_i h1; exact ⟨.inr (.inr (.inr (.inl (hn 97 h1)))), by simp at h; omega, hx⟩
          · simp only [Bool.and_eq_true, decide_eq_true_eq] at h
            exact ⟨.inr (.inr (.inr (.inr (hn 126 h.1.1.1)))), h.2, hx⟩
theorem wrL_take (a : UInt8) (l : List Int) (i : Nat) (h : i < l.length) : wrL a (l.take (i + 1)) = wrL a (l.take i) ++ (32 :: Lib.itoa l[i]) := by
  unfold wrL
  rw [List.take_succ_eq_append_getElem h, List.flatMap_append]
  simp
theorem wrL_len (a : UInt8) : ∀ (l : List Int), (∀ x ∈ l, -1000000 ≤ x ∧ x ≤ 1000000) → (wrL a l).length ≤ 1 + 22 * l.length := by
  intro l h
  induction l with
  | nil => simp [wrL]
  | cons x l ih =>
    have h1 := ih (fun y hy => h y (List.mem_cons_of_mem _ hy))
    have hx := h x (by simp)
    have h2 := Lib.itoa_length_le x (by omega) (by omega)
    unfold wrL at h1 ⊢
    simp only [List.length_cons, List.flatMap_cons, List.length_append] at h1 ⊢
    omega
theorem conv108 (W : World) : (convert 21 9 (.int .i32 108)).run Tryd.prog W = .ok (.string ⟨#[108]⟩) W := by kernel_rfl
theorem conv99 (W : World) : (convert 21 9 (.int .i32 99)).run Tryd.prog W = .ok (.string ⟨#[99]⟩) W := by kernel_rfl
theorem conv101 (W : World) : (convert 21 9 (.int .i32 101)).run Tryd.prog W = .ok (.string ⟨#[101]⟩) W := by kernel_rfl
theorem conv97 (W : World) : (convert 21 9 (.int .i32 97)).run Tryd.prog W = .ok (.string ⟨#[97]⟩) W := by kernel_rfl
theorem conv126 (W : World) : (convert 21 9 (.int .i32 126)).run Tryd.prog W = .ok (.string ⟨#[126]⟩) W := by kernel_rfl
theorem write_calls (a : UInt8) (A : Option Addr) (c : Nat) (l : List Int) (w : World) (hr : Kd.C (Kd.int .i64) w A l.length l) (hc : l.length ≤ c) (hn : l.length ≤ 281474976710656) (hg : GW w) :
    Calls Tryd.prog 9 #[.int .u8 (a.toNat : Int), .slice A l.length c] w fun e w' => e = .returned (.tuple #[.string (wrF a l).1, .int .i64 (wrF a l).2]) ∧ Below w.heap.size w w' := by
  have HR := Aside0.mk hr
  have HC := Aside0.mk hc
  have HN := Aside0.mk hn
  have HG := Aside0.mk hg
  clear hr hc hn hg
  cases hv : validF (a.toNat : Int) l with
  | false =>
    have e : wrF a l = (⟨#[]⟩, 1) := by unfold wrF; rw [hv]; rfl
    rw [e]
    clear e
    go_enter Tryd.func9, Tryd.ntmps9
    go_wp2_with (go_at_call 17; (with_reducible refine (valid_calls (a.toNat : Int) A c l _ HR.out HC.out HN.out).mono ?_); rw [hv]; rintro e w' ⟨rfl, hb⟩; (have HB := Aside0.mk hb); clear hb)
    go_ret2
    exact ⟨rfl, HB.out⟩
  | true =>
    have e : wrF a l = (B (wrL a l), 0) := by unfold wrF; rw [hv]; rfl
    rw [e]
    clear e
    obtain ⟨ha, hl, hx⟩ := valid_true hv
    have hcv0 : ∀ W : World, (convert 5 21 (.int .u8 (a.toNat : Int))).run Tryd.prog W = .ok (.int .i32 (a.toNat : Int)) W := by
      rcases ha with rfl | rfl | rfl | rfl | rfl <;> exact fun W => rfl
    have hcv : ∀ W : World, (convert 21 9 (.int .i32 (a.toNat : Int))).run Tryd.prog W = .ok (.string (B [a])) W := by
      rcases ha with rfl | rfl | rfl | rfl | rfl
      · exact conv108
      · exact conv99
      · exact conv101
      · exact conv97
      · exact conv126
    have HL := Aside0.mk hl
    have HX := Aside0.mk hx
    clear hl hx ha
    generalize hn : (a.toNat : Int) = n at *
    go_enter Tryd.func9, Tryd.ntmps9
    go_wp2_with (go_at_call 17; (with_reducible refine (valid_calls n A c l _ HR.out HC.out HN.out).mono ?_); rw [hv]; rintro e w1 ⟨rfl, hb⟩; (have HB := Aside0.mk hb); clear hb)
    go_loopg [6, 18] l.length (fun kq v6 v18 wx => ∃ (i : Nat) (s : ByteArray), v6 = .string s ∧ v18 = .int .i64 (i : Int) ∧ Aside0 (kq + i = l.length) ∧ Aside0 (s = B (wrL a (l.take i))) ∧ Aside0 (Below w.heap.size w wx))
    case atStart => exact ⟨0, B [a], rfl, rfl, ⟨by omega⟩, ⟨rfl⟩, ⟨HB.out⟩⟩
    case round =>
      clear HB
      obtain ⟨i, s, rfl, rfl, HM, HS, HB⟩ := hrel
      cases gk with
      | zero =>
        have hi : i = l.length := by have := HM.out; omega
        have c1 : decide ((i : Int) < (l.length : Int)) = false := decide_eq_false (by omega)
        have hs : s = B (wrL a l) := by rw [HS.out, hi, List.take_length]
        go_wp2
        go_ret2
        subst hs
        exact ⟨rfl, HB.out⟩
      | succ k1 =>
        have hi : i < l.length := by have := HM.out; omega
        have c1 : decide ((i : Int) < (l.length : Int)) = true := decide_eq_true (by omega)
        have hxi := HX.out l[i] (List.getElem_mem hi)
        have hrd : rd l (i : Int) = l[i] := rd_at l i hi
        obtain ⟨y, hy⟩ : ∃ y, l[i] = y := ⟨_, rfl⟩
        obtain ⟨ad, e1, hx0⟩ := Kd.at_int (Kd.C_below HR.out HB.out) (i : Int) (by omega) (by omega)
        cases e1
        rw [hrd, hy] at hx0
        rw [Int.toNat_natCast] at hx0
        rw [hy] at hxi hrd
        have hlen1 : (wrL a (l.take i)).length ≤ 1 + 22 * (l.take i).length := wrL_len a _ (fun x hx => HX.out x (List.mem_of_mem_take hx))
        have hlen2 := Lib.itoa_length_le y (by omega) (by omega)
        have hl40 := HL.out
        have hlt : (l.take i).length ≤ l.length := by rw [List.length_take]; omega
        have hA : (⟨#[32]⟩ : ByteArray) ++ B (Lib.itoa y) = B (32 :: Lib.itoa y) := append_B [32] _
        have hBB : s ++ B (32 :: Lib.itoa y) = B (wrL a (l.take (i + 1))) := by rw [HS.out, append_B, wrL_take a l i hi, hy]
        obtain ⟨T, hT⟩ : ∃ T, B (Lib.itoa y) = T := ⟨_, rfl⟩
        obtain ⟨T2, hT2⟩ : ∃ T2, (⟨#[32]⟩ : ByteArray) ++ T = T2 := ⟨_, rfl⟩
        have z1 : (1 + T.size ≤ 9223372036854775807) = True := eq_true (by rw [← hT, size_B]; omega)
        have z1' : (9223372036854775807 < 1 + T.size) = False := eq_false (by rw [← hT, size_B]; omega)
        have z2 : (s.size + T2.size ≤ 9223372036854775807) = True := eq_true (by rw [← hT2, ← hT, hA, HS.out, size_B, size_B, List.length_cons]; omega)
        have z2' : (9223372036854775807 < s.size + T2.size) = False := eq_false (by rw [← hT2, ← hT, hA, HS.out, size_B, size_B, List.length_cons]; omega)
        have hfin : s ++ T2 = B (wrL a (l.take (i + 1))) := by rw [← hT2, ← hT, hA, hBB]
        have p0 : (0 ≤ (i : Int)) = True := eq_true (by omega)
        have q0 : ((i : Int) < (l.length : Int)) = True := eq_true (by omega)
        have HI := Aside0.mk hi
        have HT := Aside0.mk hT
        have HF := Aside0.mk hfin
        have HXI := Aside0.mk hxi
        have HRD := Aside0.mk hrd
        clear hy hi hlen1 hlen2 hl40 hlt hA hBB hT hfin hxi hrd
        go_wp2_with (go_at_call 18; (with_reducible refine (itoa_calls y (by have := HXI.out; omega) (by have := HXI.out; omega) _ (HG.out.below HB.out)).mono ?_); rw [HT.out]; rintro e w2 ⟨rfl, hb2⟩; (have HB2 := Aside0.mk (below_then HB.out HB.out.size hb2)); clear hb2)
        go_roundg k1
        case measure => have := HM.out; omega
        case rel => exact ⟨i + 1, s ++ T2, by first | rfl | simp, by first | rfl | (simp; done) | (rw [w64s (show i < 281474976710656 by have := HI.out; have := HN.out; omega) (by omega)]), ⟨by have := HM.out; omega⟩, ⟨HF.out⟩, ⟨HB2.out⟩⟩
end Go.Proofs.YteiffkhkannfdaaDoor
