/- The walk of curve.Parse by hand. -/
import Derived.Test.YteiffkhkannfdaaDoorYXSplit
set_option linter.unusedVariables false
set_option linter.unusedSimpArgs false
namespace Go.Proofs.YteiffkhkannfdaaDoor
open Go.RowKit Go.Proofs.YteiffkhkannfdaaDoorW.PrintWords Go.Proofs.YteiffkhkannfdaaDoorW.PrintLast Go.Proofs.YteiffkhkannfdaaDoorW.PrintMore Go.Proofs.YteiffkhkannfdaaDoor.Pure
set_option linter.unusedVariables false
set_option maxHeartbeats 8000000
set_option maxRecDepth 100000
def toksF : List ByteArray → Option (List Int)
  | [] => some []
  | x :: xs => match Lib.atoiAll x.data.toList with
    | .ok v => (toksF xs).map (v :: ·)
    | _ => none
theorem toksF_bad : ∀ (xs : List ByteArray) (i : Nat) (h : i < xs.length), (∀ v, Lib.atoiAll xs[i].data.toList ≠ .ok v) → toksF xs = none
  | x :: xs, 0, h, hb => by
    rw [toksF]
    split
    · rename_i v hv; exact absurd hv (hb v)
    · rfl
  | x :: xs, i + 1, h, hb => by
    rw [toksF, toksF_bad xs i (by simpa using h) (by simpa using hb)]
    split <;> rfl
theorem toksF_snoc : ∀ (xs : List ByteArray) (x : ByteArray) (l : List Int) (v : Int), toksF xs = some l → Lib.atoiAll x.data.toList = .ok v → toksF (xs ++ [x]) = some (l ++ [v])
  | [], x, l, v, h, hx => by
    simp only [toksF, Option.some.injEq] at h
    subst h
    simp [toksF, hx]
  | y :: xs, x, l, v, h, hx => by
    rw [toksF] at h
    rw [List.cons_append, toksF]
    cases hy : Lib.atoiAll y.data.toList with
    | ok z =>
      rw [hy] at h
      simp only at h ⊢
      obtain ⟨l', h1, h2⟩ := Option.map_eq_some_iff.1 h
      rw [toksF_snoc xs x l' v h1 hx, ← h2]
      rfl
    | «syntax» => rw [hy] at h; cases h
    | range => rw [hy] at h; cases h
theorem toksF_len : ∀ (xs : List ByteArray) (l : List Int), toksF xs = some l → l.length = xs.length
  | [], l, h => by simp only [toksF, Option.some.injEq] at h; subst h; rfl
  | y :: xs, l, h => by
    rw [toksF] at h
    split at h
    · obtain ⟨l', h1, h2⟩ := Option.map_eq_some_iff.1 h
      rw [← h2, List.length_cons, List.length_cons, toksF_len xs l' h1]
    · cases h
def parseW (s : ByteArray) (u : ByteArray) (vs : List ByteArray) : Int × List Int × Int :=
  if u.size ≠ 1 ∨ 40 < vs.length then (0, [], 4) else
  match toksF vs with
  | none => (0, [], 4)
  | some n => if (wrF (u.data.toList.getD 0 0) n).2 = 0 ∧ (wrF (u.data.toList.getD 0 0) n).1 = s then (((u.data.toList.getD 0 0).toNat : Int), n, 0) else (0, [], 4)
theorem toList_inj {a b : ByteArray} (h : a.toList = b.toList) : a = b := by
  rw [Lib.toList_data, Lib.toList_data] at h
  rw [B_of a, B_of b, h]
theorem cell_lt {w : World} {b : Nat} {v : Value} (h : w.cell? ⟨b, 0, none⟩ = some v) : b < w.heap.size := by
  unfold World.cell? at h
  rcases Nat.lt_or_ge b w.heap.size with h1 | h1
  · exact h1
  · rw [Array.getElem?_eq_none h1] at h; simp at h
theorem info3p : (Tryd.prog.info? 3).map (fun i => (i.zero, i.size, i.bytes)) = some (some (.int .i64 0), 1, 8) := by kernel_rfl
theorem wrF_code (a : UInt8) (l : List Int) : (wrF a l).2 = 0 ∨ (wrF a l).2 = 1 := by unfold wrF; split <;> simp
theorem add_one (b i : Nat) : (⟨b, 0, none⟩ : Addr).add (i + 1) = ⟨b, 1 + i, none⟩ := by
  unfold Addr.add
  simp [Nat.add_comm]
theorem rdOf_at (l : List ByteArray) (i : Nat) (h : i < l.length) : rdOf ByteArray.empty l (i : Int) = l[i] := by
  unfold rdOf; rw [Int.toNat_natCast, List.getD_eq_getElem?_getD, List.getElem?_eq_getElem h]; rfl
theorem word_at {W : World} {b n c base : Nat} {u : ByteArray} {vs : List ByteArray} (h : Kd.R Kd.string 9 W base (fun _ => True) (.slice (some ⟨b, 0, none⟩) n c) (u :: vs)) : W.cell? ⟨b, 0, none⟩ = some (.string u) := by
  have hn : n = (u :: vs).length := by
    obtain ⟨A, c', e⟩ := Kd.R_slice h
    injection e
  subst hn
  obtain ⟨ad, e1, hx0⟩ := Kd.at_string (Kd.R_reads' h).2.2 0 (by decide) (by rw [List.length_cons]; omega)
  cases e1
  rw [show ((0 : Int)).toNat = 0 from rfl, Addr.add_zero'] at hx0
  exact hx0
theorem parse_calls (a0 : ByteArray) (u : ByteArray) (vs : List ByteArray) (w : World) (hw : splitW a0 = u :: vs) (hs : a0.size ≤ 100000) (hlen : (u :: vs).length ≤ 100001) (hz : ∀ x ∈ vs, x.size ≤ 100000) (hg : GW w) :
    Calls Tryd.prog 5 #[.string a0] w fun e w' => ∃ v1_ : Value, e = .returned (.tuple #[.int .u8 (parseW a0 u vs).1, v1_, .int .i64 (parseW a0 u vs).2.2]) ∧ Kd.R (Kd.int .i64) 3 w' w.heap.size (fun _ => True) v1_ (parseW a0 u vs).2.1 ∧ Below w.heap.size w w' := by
  have HPOS := Aside0.mk (show (0 : Int) < ((u :: vs).length : Int) by rw [List.length_cons]; omega)
  have HS := Aside0.mk hs
  have HW := Aside0.mk hw
  have HG := Aside0.mk hg
  have HLN := Aside0.mk hlen
  have HZ := Aside0.mk hz
  clear hs hw hg hlen hz
  by_cases c1 : u.size = 1
  · by_cases c2 : vs.length ≤ 40
    · have b1 : ((u.size : Int) != 1) = false := bne_eq_false_iff_eq.2 (by omega)
      have hp : parseW a0 u vs = match toksF vs with
          | none => (0, [], 4)
          | some n => if (wrF (u.data.toList.getD 0 0) n).2 = 0 ∧ (wrF (u.data.toList.getD 0 0) n).1 = a0 then (((u.data.toList.getD 0 0).toNat : Int), n, 0) else (0, [], 4) := by
        unfold parseW; rw [if_neg (by omega)]
      generalize parseW a0 u vs = res at *
      obtain ⟨c0, hc0⟩ : ∃ c0, u.data.toList.getD 0 0 = c0 := ⟨_, rfl⟩
      have hbt : bt u ((0 : Nat) : Int) = (c0.toNat : Int) := by
        obtain ⟨l, rfl⟩ := B_ex u
        rw [size_B] at c1
        rw [bt_B l 0 (by omega), ← hc0, data_B, List.getD_eq_getElem?_getD, List.getElem?_eq_getElem (by omega)]
        rfl
      rw [hc0] at hp
      clear hc0
      have HP := Aside0.mk hp
      clear hp
      have HL := Aside0.mk c2
      have q16 : (0 < u.size) = True := eq_true (by omega)
      have qi16 : (0 < (u.size : Int)) = True := eq_true (by omega)
      have hx16 : ∀ h : 0 < u.size, ((u[0]'h).toNat : Int) = (c0.toNat : Int) := fun h => (bt_at u 0 h).trans hbt
      clear c1 c2 hbt
      rcases vs with _ | ⟨x, xs⟩
      · have HN0 := Aside0.mk (show ([] : List ByteArray).length = 0 from rfl)
        go_enter Tryd.func5, Tryd.ntmps5
        go_wp2_with (go_at_call 11; (with_reducible refine (split_calls a0 _ _ HW.out HS.out HLN.out HG.out).mono ?_); rintro e w1 ⟨rfl, ho, hb⟩; (obtain ⟨ad, e1, hx0⟩ := Kd.at_string (Kd.R_reads' ho).2.2 0 (by decide) HPOS.out); cases e1; (rw [show ((0 : Int)).toNat = 0 from rfl, Addr.add_zero'] at hx0); (have hx0' : w1.cell? ⟨w.heap.size, 0, none⟩ = some (.string u) := hx0); (have HO := Aside0.mk ho); (have HB := Aside0.mk hb); clear ho hb hx0)
        go_loopg [6, 28] 0 (fun kq v6 v28 wx => ∃ (i : Nat) (acc : List Int), v28 = .int .i64 (i : Int) ∧ Aside0 (kq + i = 0) ∧ Aside0 (toksF (([] : List ByteArray).take i) = some acc) ∧ Aside0 (acc.length = i) ∧ Aside0 (Kd.R Kd.string 9 wx w.heap.size (fun _ => True) (.slice (some ⟨w.heap.size, 0, none⟩) (u :: ([] : List ByteArray)).length (u :: ([] : List ByteArray)).length) (u :: ([] : List ByteArray))) ∧ Aside0 (Kd.R (Kd.int .i64) 3 wx w.heap.size (fun _ => True) v6 acc) ∧ Aside0 (Below w.heap.size w wx) ∧ wx.cell? ⟨w.heap.size, 0, none⟩ = some (.string u) ∧ Aside0 (w.heap.size < wx.heap.size))
        case atStart => exact ⟨0, [], rfl, ⟨by omega⟩, ⟨rfl⟩, ⟨rfl⟩, ⟨HO.out⟩, ⟨Kd.R_nil _ _ _ _ _⟩, ⟨HB.out⟩, hx0', ⟨cell_lt hx0'⟩⟩
        case round =>
          clear HO HB hx0'
          obtain ⟨i, acc, rfl, HM, HT0, HAL, HO, HR, HB, hx0', HBL⟩ := hrel
          have hal : i ≤ 40 := by have h1 := HM.out; have h2 := HL.out; simp at h2; omega
          cases gk with
          | zero =>
            have hi0 : i = 0 := by have := HM.out; omega
            subst hi0
            have HT := Aside0.mk (show toksF [] = some acc from HT0.out)
            obtain ⟨Ao, co, eo⟩ := Kd.R_slice HR.out
            subst eo
            obtain ⟨⟨bk, ec⟩, hwr⟩ : ∃ q, wrF c0 acc = q := ⟨_, rfl⟩
            have hec := wrF_code c0 acc
            rw [hwr] at hec
            have HWR := Aside0.mk hwr
            clear hwr
            by_cases d1 : ec = 0
            · have f1 : (ec != 0) = false := bne_eq_false_iff_eq.2 d1
              by_cases d2 : bk = a0
              · have f2 : (bk.toList != a0.toList) = false := bne_eq_false_iff_eq.2 (by rw [d2])
                have f2' : (bk.toList == a0.toList) = true := beq_iff_eq.2 (by rw [d2])
                have hres : res = ((c0.toNat : Int), acc, 0) := by rw [HP.out, HT.out]; simp only; rw [HWR.out, if_pos ⟨d1, d2⟩]
                subst hres
                clear d1 d2 hec
                go_wp2_with (go_at_call 9; (with_reducible refine (write_calls c0 _ _ acc _ (Kd.R_reads' HR.out).2.2 (Kd.R_reads' HR.out).2.1 (by have := HAL.out; omega) (HG.out.below HB.out)).mono ?_); rw [HWR.out]; rintro e w3 ⟨rfl, hb3⟩; (have HR3 := Aside0.mk (Kd.R_below HR.out hb3)); (have HB3 := Aside0.mk (below_then HB.out HB.out.size hb3)); (have hx3 : w3.cell? ⟨w.heap.size, 0, none⟩ = some (.string u) := (hb3.cell (p := ⟨w.heap.size, 0, none⟩) HBL.out).trans hx0'); clear hb3)
                go_ret3
                exact ⟨_, rfl, HR3.out, HB3.out⟩
              · have f2 : (bk.toList != a0.toList) = true := bne_iff_ne.2 (fun h => d2 (toList_inj h))
                have f2' : (bk.toList == a0.toList) = false := beq_eq_false_iff_ne.2 (fun h => d2 (toList_inj h))
                have hres : res = (0, [], 4) := by rw [HP.out, HT.out]; simp only; rw [HWR.out, if_neg (fun h => d2 h.2)]
                subst hres
                clear d1 d2 hec
                go_wp2_with (go_at_call 9; (with_reducible refine (write_calls c0 _ _ acc _ (Kd.R_reads' HR.out).2.2 (Kd.R_reads' HR.out).2.1 (by have := HAL.out; omega) (HG.out.below HB.out)).mono ?_); rw [HWR.out]; rintro e w3 ⟨rfl, hb3⟩; (have HR3 := Aside0.mk (Kd.R_below HR.out hb3)); (have HB3 := Aside0.mk (below_then HB.out HB.out.size hb3)); (have hx3 : w3.cell? ⟨w.heap.size, 0, none⟩ = some (.string u) := (hb3.cell (p := ⟨w.heap.size, 0, none⟩) HBL.out).trans hx0'); clear hb3)
                go_ret3
                exact ⟨_, rfl, Kd.R_nil _ _ _ _ _, HB3.out⟩
            · have f1 : (ec != 0) = true := bne_iff_ne.2 d1
              have hres : res = (0, [], 4) := by rw [HP.out, HT.out]; simp only; rw [HWR.out, if_neg (fun h => d1 h.1)]
              subst hres
              clear d1 hec
              go_wp2_with (go_at_call 9; (with_reducible refine (write_calls c0 _ _ acc _ (Kd.R_reads' HR.out).2.2 (Kd.R_reads' HR.out).2.1 (by have := HAL.out; omega) (HG.out.below HB.out)).mono ?_); rw [HWR.out]; rintro e w3 ⟨rfl, hb3⟩; (have HR3 := Aside0.mk (Kd.R_below HR.out hb3)); (have HB3 := Aside0.mk (below_then HB.out HB.out.size hb3)); (have hx3 : w3.cell? ⟨w.heap.size, 0, none⟩ = some (.string u) := (hb3.cell (p := ⟨w.heap.size, 0, none⟩) HBL.out).trans hx0'); clear hb3)
              go_ret3
              exact ⟨_, rfl, Kd.R_nil _ _ _ _ _, HB3.out⟩
          | succ k1 =>
            exact absurd HM.out (by omega)
      · have b2' : decide (41 < (xs.length : Int) + 1 + 1) = false := decide_eq_false (by have := HL.out; simp at this; omega)
        have b3 : (1 ≤ (xs.length : Int) + 1 + 1) = True := eq_true (by omega)
        go_enter Tryd.func5, Tryd.ntmps5
        go_wp2_with (go_at_call 11; (with_reducible refine (split_calls a0 _ _ HW.out HS.out HLN.out HG.out).mono ?_); rintro e w1 ⟨rfl, ho, hb⟩; (obtain ⟨ad, e1, hx0⟩ := Kd.at_string (Kd.R_reads' ho).2.2 0 (by decide) HPOS.out); cases e1; (rw [show ((0 : Int)).toNat = 0 from rfl, Addr.add_zero'] at hx0); (have hx0' : w1.cell? ⟨w.heap.size, 0, none⟩ = some (.string u) := hx0); (have HO := Aside0.mk ho); (have HB := Aside0.mk hb); clear ho hb hx0)
        go_loopg [6, 28] (xs.length + 1) (fun kq v6 v28 wx => ∃ (i : Nat) (acc : List Int), v28 = .int .i64 (i : Int) ∧ Aside0 (kq + i = (xs.length + 1)) ∧ Aside0 (toksF ((x :: xs).take i) = some acc) ∧ Aside0 (acc.length = i) ∧ Aside0 (Kd.R Kd.string 9 wx w.heap.size (fun _ => True) (.slice (some ⟨w.heap.size, 0, none⟩) (u :: (x :: xs)).length (u :: (x :: xs)).length) (u :: (x :: xs))) ∧ Aside0 (Kd.R (Kd.int .i64) 3 wx w.heap.size (fun _ => True) v6 acc) ∧ Aside0 (Below w.heap.size w wx) ∧ wx.cell? ⟨w.heap.size, 0, none⟩ = some (.string u) ∧ Aside0 (w.heap.size < wx.heap.size))
        case atStart => exact ⟨0, [], rfl, ⟨by omega⟩, ⟨rfl⟩, ⟨rfl⟩, ⟨HO.out⟩, ⟨Kd.R_nil _ _ _ _ _⟩, ⟨HB.out⟩, hx0', ⟨cell_lt hx0'⟩⟩
        case round =>
          clear HO HB hx0'
          obtain ⟨i, acc, rfl, HM, HT0, HAL, HO, HR, HB, hx0', HBL⟩ := hrel
          have hal : i ≤ 40 := by have h1 := HM.out; have h2 := HL.out; simp at h2; omega
          cases gk with
          | zero =>
            have c1 : decide ((i : Int) < (xs.length : Int) + 1) = false := decide_eq_false (by have := HM.out; omega)
            have HT := Aside0.mk (show toksF (x :: xs) = some acc by have h := HT0.out; rw [List.take_of_length_le (by have := HM.out; simp; omega)] at h; exact h)
            obtain ⟨Ao, co, eo⟩ := Kd.R_slice HR.out
            subst eo
            obtain ⟨⟨bk, ec⟩, hwr⟩ : ∃ q, wrF c0 acc = q := ⟨_, rfl⟩
            have hec := wrF_code c0 acc
            rw [hwr] at hec
            have HWR := Aside0.mk hwr
            clear hwr
            by_cases d1 : ec = 0
            · have f1 : (ec != 0) = false := bne_eq_false_iff_eq.2 d1
              by_cases d2 : bk = a0
              · have f2 : (bk.toList != a0.toList) = false := bne_eq_false_iff_eq.2 (by rw [d2])
                have f2' : (bk.toList == a0.toList) = true := beq_iff_eq.2 (by rw [d2])
                have hres : res = ((c0.toNat : Int), acc, 0) := by rw [HP.out, HT.out]; simp only; rw [HWR.out, if_pos ⟨d1, d2⟩]
                subst hres
                clear d1 d2 hec
                go_wp2_with (go_at_call 9; (with_reducible refine (write_calls c0 _ _ acc _ (Kd.R_reads' HR.out).2.2 (Kd.R_reads' HR.out).2.1 (by have := HAL.out; omega) (HG.out.below HB.out)).mono ?_); rw [HWR.out]; rintro e w3 ⟨rfl, hb3⟩; (have HR3 := Aside0.mk (Kd.R_below HR.out hb3)); (have HB3 := Aside0.mk (below_then HB.out HB.out.size hb3)); (have hx3 : w3.cell? ⟨w.heap.size, 0, none⟩ = some (.string u) := (hb3.cell (p := ⟨w.heap.size, 0, none⟩) HBL.out).trans hx0'); clear hb3)
                go_ret3
                exact ⟨_, rfl, HR3.out, HB3.out⟩
              · have f2 : (bk.toList != a0.toList) = true := bne_iff_ne.2 (fun h => d2 (toList_inj h))
                have f2' : (bk.toList == a0.toList) = false := beq_eq_false_iff_ne.2 (fun h => d2 (toList_inj h))
                have hres : res = (0, [], 4) := by rw [HP.out, HT.out]; simp only; rw [HWR.out, if_neg (fun h => d2 h.2)]
                subst hres
                clear d1 d2 hec
                go_wp2_with (go_at_call 9; (with_reducible refine (write_calls c0 _ _ acc _ (Kd.R_reads' HR.out).2.2 (Kd.R_reads' HR.out).2.1 (by have := HAL.out; omega) (HG.out.below HB.out)).mono ?_); rw [HWR.out]; rintro e w3 ⟨rfl, hb3⟩; (have HR3 := Aside0.mk (Kd.R_below HR.out hb3)); (have HB3 := Aside0.mk (below_then HB.out HB.out.size hb3)); (have hx3 : w3.cell? ⟨w.heap.size, 0, none⟩ = some (.string u) := (hb3.cell (p := ⟨w.heap.size, 0, none⟩) HBL.out).trans hx0'); clear hb3)
                go_ret3
                exact ⟨_, rfl, Kd.R_nil _ _ _ _ _, HB3.out⟩
            · have f1 : (ec != 0) = true := bne_iff_ne.2 d1
              have hres : res = (0, [], 4) := by rw [HP.out, HT.out]; simp only; rw [HWR.out, if_neg (fun h => d1 h.1)]
              subst hres
              clear d1 hec
              go_wp2_with (go_at_call 9; (with_reducible refine (write_calls c0 _ _ acc _ (Kd.R_reads' HR.out).2.2 (Kd.R_reads' HR.out).2.1 (by have := HAL.out; omega) (HG.out.below HB.out)).mono ?_); rw [HWR.out]; rintro e w3 ⟨rfl, hb3⟩; (have HR3 := Aside0.mk (Kd.R_below HR.out hb3)); (have HB3 := Aside0.mk (below_then HB.out HB.out.size hb3)); (have hx3 : w3.cell? ⟨w.heap.size, 0, none⟩ = some (.string u) := (hb3.cell (p := ⟨w.heap.size, 0, none⟩) HBL.out).trans hx0'); clear hb3)
              go_ret3
              exact ⟨_, rfl, Kd.R_nil _ _ _ _ _, HB3.out⟩
          | succ k1 =>
            have hi : i < xs.length + 1 := by have := HM.out; omega
            have c1 : decide ((i : Int) < (xs.length : Int) + 1) = true := decide_eq_true (by omega)
            obtain ⟨ad, e1, hx⟩ := Kd.at_string (Kd.R_reads' HO.out).2.2 ((i + 1 : Nat) : Int) (by omega) (by simp only [List.length_cons]; omega)
            cases e1
            rw [rdOf_at _ (i + 1) (by simp only [List.length_cons]; omega), Int.toNat_natCast, add_one] at hx
            obtain ⟨y, hy⟩ : ∃ y, (x :: xs)[i]'(by simpa using hi) = y := ⟨_, rfl⟩
            have hx' : wr.cell? ⟨w.heap.size, 1 + i, none⟩ = some (.string y) := by rw [← hy]; exact hx
            clear hx
            have hyz : y.size ≤ 100000 := HZ.out y (by rw [← hy]; exact List.getElem_mem _)
            have HYZ := Aside0.mk hyz
            have p0 : (0 ≤ (i : Int)) = True := eq_true (by omega)
            have q0 : ((i : Int) < (xs.length : Int) + 1) = True := eq_true (by omega)
            by_cases hok : ∃ v, Lib.atoiAll y.data.toList = .ok v
            · obtain ⟨v, hv⟩ := hok
              have HV := Aside0.mk hv
              have HTN := Aside0.mk (show toksF ((x :: xs).take (i + 1)) = some (acc ++ [v]) by rw [List.take_succ_eq_append_getElem (by simpa using hi), hy]; exact toksF_snoc _ _ _ _ HT0.out hv)
              clear hv hy hyz
              have HAI := Aside0.mk hal
              have HII := Aside0.mk hi
              clear hal hi
              go_wp2_with (first | (go_at_call 12; (with_reducible refine (atoi_ok y HYZ.out v HV.out _).mono ?_); rintro e w2 ⟨rfl, hb2⟩; (have HO2 := Aside0.mk (Kd.R_below HO.out hb2)); (have HR2 := Aside0.mk (Kd.R_below HR.out hb2)); (have HBL2 := Aside0.mk (Nat.lt_of_lt_of_le HBL.out hb2.size)); (have HB2 := Aside0.mk (below_then HB.out HB.out.size hb2)); (have hx2 : w2.cell? ⟨w.heap.size, 0, none⟩ = some (.string u) := (hb2.cell (p := ⟨w.heap.size, 0, none⟩) HBL.out).trans hx0'); clear hb2) | ((with_reducible refine gate_builtin (b := .append) (xs := #[.tmp 39, .tmp 41]) rfl ?_); at_builtin; refine Kd.R_append (Kd.int .i64) (w0 := w) w.heap.size rfl (.tmp 39) (.tmp 41) 22 3 (.int .i64 0) 8 rfl Tryd.underlying22 info3p rfl (by decide) (by omega) u6 acc v [.int .i64 v] (fun _ => True) (fun _ => False) rfl rfl ?aP (fun _ hk => hk.elim) ?aF ?aO ?aB ?aS ?aL ?_; (case aP => exact rfl); (case aB => exact HB2.out); (case aF => exact (fun _ _ => trivial)); (case aO => exact HR2.out); (case aS => exact HB2.out.size); (case aL => have := HAL.out; have := HAI.out; omega); intro v1 w4 ho hb hg hat; (have HO4 := Aside0.mk (Kd.R_over' HO2.out (Kd.R_typed HR2.out) (by decide) hg)); (have HR4 := Aside0.mk ho); (have HB4 := Aside0.mk hb); (have HBL4 := Aside0.mk (Nat.lt_of_lt_of_le HBL2.out hg.size)); (have hx4 := word_at HO4.out); clear ho hb hg hat))
              go_roundg k1
              case measure => have := HM.out; omega
              case rel => exact ⟨i + 1, acc ++ [v], by first | rfl | (simp; done) | (rw [w64s (show i < 281474976710656 by have := HAI.out; omega) (by omega)]), ⟨by have := HM.out; omega⟩, ⟨HTN.out⟩, ⟨by rw [List.length_append, HAL.out]; rfl⟩, ⟨HO4.out⟩, ⟨HR4.out⟩, ⟨HB4.out⟩, hx4, ⟨HBL4.out⟩⟩
            · have hno : ∀ v, Lib.atoiAll y.data.toList ≠ .ok v := fun v h => hok ⟨v, h⟩
              have HNO := Aside0.mk hno
              have hres : res = (0, [], 4) := by rw [HP.out, toksF_bad (x :: xs) i (by simpa using hi) (by rw [hy]; exact hno)]
              subst hres
              clear hno hok hy hyz hal hi
              go_wp2_with (go_at_call 12; (with_reducible refine (atoi_bad y HYZ.out HNO.out _ (HG.out.below HB.out)).mono ?_); rintro e w2 ⟨z, M, rfl, hb2⟩; (have HB2 := Aside0.mk (below_then HB.out HB.out.size hb2)); clear hb2)
              go_ret3
              exact ⟨_, rfl, Kd.R_nil _ _ _ _ _, HB2.out⟩
    · have e0 : parseW a0 u vs = (0, [], 4) := by unfold parseW; rw [if_pos (.inr (by omega))]
      rw [e0]
      clear e0
      have b1 : ((u.size : Int) != 1) = false := bne_eq_false_iff_eq.2 (by omega)
      have b2 : decide (41 < (vs.length : Int) + 1) = true := decide_eq_true (by omega)
      clear c1 c2
      go_enter Tryd.func5, Tryd.ntmps5
      go_wp2_with (go_at_call 11; (with_reducible refine (split_calls a0 _ _ HW.out HS.out HLN.out HG.out).mono ?_); rintro e w1 ⟨rfl, ho, hb⟩; (obtain ⟨ad, e1, hx0⟩ := Kd.at_string (Kd.R_reads' ho).2.2 0 (by decide) HPOS.out); cases e1; (rw [show ((0 : Int)).toNat = 0 from rfl, Addr.add_zero'] at hx0); (have hx0' : w1.cell? ⟨w.heap.size, 0, none⟩ = some (.string u) := hx0); (have HO := Aside0.mk ho); (have HB := Aside0.mk hb); clear ho hb hx0)
      go_ret3
      exact ⟨_, rfl, Kd.R_nil _ _ _ _ _, HB.out⟩
  · have e0 : parseW a0 u vs = (0, [], 4) := by unfold parseW; rw [if_pos (.inl c1)]
    rw [e0]
    clear e0
    have b1 : ((u.size : Int) != 1) = true := bne_iff_ne.2 (by omega)
    clear c1
    go_enter Tryd.func5, Tryd.ntmps5
    go_wp2_with (go_at_call 11; (with_reducible refine (split_calls a0 _ _ HW.out HS.out HLN.out HG.out).mono ?_); rintro e w1 ⟨rfl, ho, hb⟩; (obtain ⟨ad, e1, hx0⟩ := Kd.at_string (Kd.R_reads' ho).2.2 0 (by decide) HPOS.out); cases e1; (rw [show ((0 : Int)).toNat = 0 from rfl, Addr.add_zero'] at hx0); (have hx0' : w1.cell? ⟨w.heap.size, 0, none⟩ = some (.string u) := hx0); (have HO := Aside0.mk ho); (have HB := Aside0.mk hb); clear ho hb hx0)
    go_ret3
    exact ⟨_, rfl, Kd.R_nil _ _ _ _ _, HB.out⟩
end Go.Proofs.YteiffkhkannfdaaDoor
