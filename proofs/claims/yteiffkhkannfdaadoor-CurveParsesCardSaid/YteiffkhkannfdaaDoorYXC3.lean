/- Layer 19, the plain law: a text read as a stroke, of both sides. -/
import Derived.Test.YteiffkhkannfdaaDoorYXC2
import Derived.Test.YteiffkhkannfdaaDoorYb0
import Derived.Test.YteiffkhkannfdaaDoorYb1
import Derived.Test.YteiffkhkannfdaaDoorYb2
set_option linter.unusedVariables false
set_option linter.unusedSimpArgs false
namespace Go.Proofs.YteiffkhkannfdaaDoor.Pure
open Go.RowKit Go.Proofs.YteiffkhkannfdaaDoor Go.Proofs.YteiffkhkannfdaaDoor.Xb Go.Proofs.YteiffkhkannfdaaDoorW.PrintWords Go.Proofs.YteiffkhkannfdaaDoorW.PrintLast Go.Proofs.YteiffkhkannfdaaDoorW.PrintMore
theorem cut_l (l : List UInt8) (hn : l.length ≤ 100000) : ∀ (d i fr : Nat) (acc : List (List UInt8)), i + d = l.length → fr ≤ i → acc.length ≤ i → 32 ∉ (l.drop fr).take (i - fr) →
    Ev (fun k => frisketref07_Cut.l0 k (B l) 32 (acc.map B) (fr : Int) (i : Int)) ((acc ++ cutL (l.drop fr)).map B)
  | 0, i, fr, acc, hi, hf, ha, hm => by
    rw [List.take_of_length_le (by rw [List.length_drop]; omega)] at hm
    rw [cutL_word _ hm]
    refine Ev.done (fun k => ?_)
    rw [frisketref07_Cut.l0, if_neg (by rw [size_B]; omega), if_pos (by omega), if_pos (by rw [size_B]; omega), if_pos (by rw [List.length_map]; omega), Int.toNat_natCast, extract_B, size_B, List.take_of_length_le (by rw [List.length_drop]; omega), List.map_append]
    rfl
  | d + 1, i, fr, acc, hi, hf, ha, hm => by
    have hlt : i < l.length := by omega
    by_cases h32 : l[i] = 32
    · have e : l.drop fr = (l.drop fr).take (i - fr) ++ 32 :: l.drop (i + 1) := by
        have e1 : (l.drop fr).drop (i - fr) = 32 :: l.drop (i + 1) := by
          rw [List.drop_drop, show fr + (i - fr) = i by omega, List.drop_eq_getElem_cons hlt, h32]
        rw [← e1, List.take_append_drop]
      have h2 := cut_l l hn d (i + 1) (i + 1) (acc ++ [(l.drop fr).take (i - fr)]) (by omega) (Nat.le_refl _) (by rw [List.length_append, List.length_singleton]; omega) (by simp)
      have e2 : (acc ++ [(l.drop fr).take (i - fr)]) ++ cutL (l.drop (i + 1)) = acc ++ cutL (l.drop fr) := by
        rw [List.append_assoc]
        conv => rhs; rw [e, cutL_app _ _ hm]
        rfl
      rw [e2] at h2
      refine Ev.goes h2 (fun k => ?_)
      rw [frisketref07_Cut.l0, if_pos (by rw [size_B]; omega), if_pos (by omega), bt_B l i hlt, if_pos ((eqn _ 32 32 rfl).2 h32), if_pos (by omega), if_pos (by omega), if_pos (by rw [size_B]; omega), if_pos (by rw [List.length_map]; omega), w64s hlt (by omega), Int.toNat_natCast, Int.toNat_natCast, extract_B, List.map_append]
      rfl
    · have h2 := cut_l l hn d (i + 1) fr acc (by omega) (by omega) (by omega) (by
        rw [show i + 1 - fr = (i - fr) + 1 by omega, List.take_succ_eq_append_getElem (by rw [List.length_drop]; omega)]
        intro h
        rcases List.mem_append.1 h with h | h
        · exact hm h
        · have := List.mem_singleton.1 h
          rw [List.getElem_drop] at this
          have e : l[fr + (i - fr)]'(by omega) = l[i] := by congr 1; omega
          rw [e] at this
          exact h32 this.symm)
      refine Ev.goes h2 (fun k => ?_)
      rw [frisketref07_Cut.l0, if_pos (by rw [size_B]; omega), if_pos (by omega), bt_B l i hlt, if_neg (fun h => h32 ((eqn _ 32 32 rfl).1 h)), w64s hlt (by omega)]
theorem cut_f (l : List UInt8) (hn : l.length ≤ 100000) : Ev (fun k => frisketref07_Cut.f k (B l) 32) ((cutL l).map B) := by
  have h := cut_l l hn l.length 0 0 [] (by omega) (by omega) (by simp) (by simp)
  exact h
/-- The numbers that the words of a stroke are. -/
structure Good (c : UInt8) (vs : List (List UInt8)) (n : List Int) : Prop where
  is : vs = n.map Lib.itoa
  ok : validF (c.toNat : Int) n = true
theorem Good.bd {c : UInt8} {vs : List (List UInt8)} {n : List Int} (h : Good c vs n) : ∀ x ∈ n, -1000000 ≤ x ∧ x ≤ 1000000 := (valid_true h.ok).2.2
theorem map_itoa_inj : ∀ (n m : List Int), (∀ x ∈ n, -1000000000 ≤ x ∧ x ≤ 1000000000) → (∀ x ∈ m, -1000000000 ≤ x ∧ x ≤ 1000000000) → n.map Lib.itoa = m.map Lib.itoa → n = m
  | [], [], _, _, _ => rfl
  | [], y :: m, _, _, h => by simp at h
  | x :: n, [], _, _, h => by simp at h
  | x :: n, y :: m, hn, hm, h => by
    simp only [List.map_cons, List.cons.injEq] at h
    rw [itoa_inj (hn x (by simp)) (hm y (by simp)) h.1, map_itoa_inj n m (fun z hz => hn z (List.mem_cons_of_mem _ hz)) (fun z hz => hm z (List.mem_cons_of_mem _ hz)) h.2]
theorem rparse_l (l : List UInt8) (c : UInt8) (vs : List (List UInt8)) (hl : 0 < l.length) (hc : bt (B l) 0 = (c.toNat : Int)) (hn : vs.length ≤ 100001) (hz : ∀ v ∈ vs, v.length ≤ 100000) :
    ∀ (d i : Nat) (acc : List Int), i + d = vs.length → vs.take i = acc.map Lib.itoa → (∀ x ∈ acc, -1000000000 ≤ x ∧ x ≤ 1000000000) →
      (∀ n, Good c vs n → Ev (fun k => frisketref19_Parse.l0 k (B l) (([c] :: vs).map B) acc ((i + 1 : Nat) : Int)) ((c.toNat : Int), n, 0)) ∧
      ((¬ ∃ n, Good c vs n) → Ev (fun k => frisketref19_Parse.l0 k (B l) (([c] :: vs).map B) acc ((i + 1 : Nat) : Int)) (0, [], 4))
  | 0, i, acc, hi, ht, hb => by
    rw [List.take_of_length_le (by omega)] at ht
    have hal : acc.length = vs.length := by rw [ht, List.length_map]
    have hv := rvalid_f (c.toNat : Int) acc (by omega)
    have hlen : (([c] :: vs).map B).length = vs.length + 1 := by simp
    have step : ∀ r, Ev (fun k => if validF (c.toNat : Int) acc = true then some ((c.toNat : Int), acc, (0 : Int)) else some (0, ([] : List Int), (4 : Int))) r → Ev (fun k => frisketref19_Parse.l0 k (B l) (([c] :: vs).map B) acc ((i + 1 : Nat) : Int)) r := by
      intro r hr
      refine Ev.bindStep (F := ?_) hv (fun k => ?_) ?_
      rotate_left 1
      · rw [frisketref19_Parse.l0, if_neg (by rw [hlen]; omega), if_pos (by rw [size_B]; omega), hc]
      exact hr
    constructor
    · intro n hg
      have e : n = acc := map_itoa_inj n acc (fun x hx => by have := hg.bd x hx; omega) hb (by rw [← hg.is, ht])
      subst e
      refine step _ (Ev.congr (fun k => ?_) (Ev.now _))
      rw [if_pos hg.ok]
    · intro hno
      refine step _ (Ev.congr (fun k => ?_) (Ev.now _))
      rw [if_neg (fun h => hno ⟨acc, ht, h⟩)]
  | d + 1, i, acc, hi, ht, hb => by
    have hlt : i < vs.length := by omega
    have hlen : (([c] :: vs).map B).length = vs.length + 1 := by simp
    have hal : acc.length = i := by have := congrArg List.length ht; rw [List.length_take, List.length_map] at this; omega
    obtain ⟨x, b, hw, h1, h2⟩ := whole_spec vs[i] (hz _ (List.getElem_mem hlt))
    have hrd : rdOf ByteArray.empty (([c] :: vs).map B) ((i + 1 : Nat) : Int) = B vs[i] := by
      unfold rdOf
      rw [Int.toNat_natCast, List.getD_eq_getElem?_getD, List.getElem?_map, List.getElem?_cons_succ, List.getElem?_eq_getElem hlt]
      rfl
    have step : ∀ r, Ev (fun k => if b = true then frisketref19_Parse.l0 k (B l) (([c] :: vs).map B) (acc ++ [x]) ((i + 1 + 1 : Nat) : Int) else some (0, ([] : List Int), (4 : Int))) r → Ev (fun k => frisketref19_Parse.l0 k (B l) (([c] :: vs).map B) acc ((i + 1 : Nat) : Int)) r := by
      intro r hr
      refine Ev.bindStep (F := ?_) hw (fun k => ?_) ?_
      rotate_left 1
      · rw [frisketref19_Parse.l0, if_pos (by rw [hlen]; omega), if_pos (by omega), hrd]
      refine Ev.congr (fun k => ?_) hr
      simp only
      by_cases hbt : b = true
      · rw [if_pos hbt, if_pos hbt, if_pos (by omega), w64s (show i + 1 < 1000000 by omega) (by omega)]
      · rw [if_neg hbt, if_neg hbt]
    cases b with
    | true =>
      obtain ⟨hx, hx1⟩ := h1 rfl
      obtain ⟨k1, k2⟩ := rparse_l l c vs hl hc hn hz d (i + 1) (acc ++ [x]) (by omega) (by rw [List.take_succ_eq_append_getElem hlt, ht, List.map_append, hx]; rfl) (by
        intro y hy
        rcases List.mem_append.1 hy with h | h
        · exact hb y h
        · rw [List.mem_singleton.1 h]; exact hx1)
      exact ⟨fun n hg => step _ (Ev.congr (fun k => by rw [if_pos rfl]) (k1 n hg)), fun hno => step _ (Ev.congr (fun k => by rw [if_pos rfl]) (k2 hno))⟩
    | false =>
      constructor
      · intro n hg
        exfalso
        have hln : i < n.length := by have := congrArg List.length hg.is; rw [List.length_map] at this; omega
        have e : vs[i] = Lib.itoa n[i] := by
          have h3 := congrArg (·[i]?) hg.is
          simp only [List.getElem?_map, List.getElem?_eq_getElem hlt, List.getElem?_eq_getElem hln, Option.map_some, Option.some.injEq] at h3
          exact h3
        have := (h2 n[i] (hg.bd _ (List.getElem_mem hln)) e).2
        cases this
      · intro _
        exact step _ (Ev.congr (fun k => by rw [if_neg Bool.false_ne_true]) (Ev.now _))
theorem toks_itoa : ∀ (n : List Int), (∀ x ∈ n, -1000000 ≤ x ∧ x ≤ 1000000) → toksF ((n.map Lib.itoa).map B) = some n
  | [], _ => rfl
  | x :: n, h => by
    have hx := h x (by simp)
    rw [List.map_cons, List.map_cons, toksF, data_B, atoi_itoa x (by omega)]
    simp only
    rw [toks_itoa n (fun y hy => h y (List.mem_cons_of_mem _ hy))]
    rfl
theorem wrL_tail (c : UInt8) (n : List Int) : wrL c n = [c] ++ tailL (n.map Lib.itoa) := by
  unfold wrL tailL
  rw [List.flatMap_map]
  rfl
theorem pparse_one (l : List UInt8) (c : UInt8) (vs : List (List UInt8)) (hcut : cutL l = [c] :: vs) :
    (∀ n, Good c vs n → parseW (B l) (B [c]) (vs.map B) = ((c.toNat : Int), n, 0)) ∧ ((¬ ∃ n, Good c vs n) → parseW (B l) (B [c]) (vs.map B) = (0, [], 4)) := by
  obtain ⟨u', vs', h1, h2, h3, h4⟩ := cutL_join l
  rw [hcut] at h1
  injection h1 with e1 e2
  subst e1 e2
  have hc0 : (B [c]).data.toList.getD 0 0 = c := by rw [data_B]; rfl
  constructor
  · intro n hg
    have hlen : vs.length = n.length := by rw [hg.is, List.length_map]
    unfold parseW
    rw [if_neg (by rw [size_B, List.length_map]; have := (valid_true hg.ok).2.1; simp; omega), hc0]
    have ht : toksF (vs.map B) = some n := by rw [hg.is]; exact toks_itoa n hg.bd
    have hw : wrF c n = (B l, 0) := by
      unfold wrF
      rw [if_pos hg.ok, wrL_tail, ← hg.is, ← h2]
    rw [ht]
    simp only
    rw [hw, if_pos ⟨rfl, rfl⟩]
  · intro hno
    unfold parseW
    rw [hc0]
    split
    · rfl
    · split
      · rfl
      · rename_i n ht
        rw [if_neg]
        rintro ⟨g1, g2⟩
        apply hno
        unfold wrF at g1 g2
        by_cases hv : validF (c.toNat : Int) n = true
        · rw [if_pos hv] at g2
          have e := B_inj g2
          rw [wrL_tail] at e
          have e3 := cutL_back (n.map Lib.itoa) [c] h3 (by
            intro v hv
            obtain ⟨x, _, rfl⟩ := List.mem_map.1 hv
            exact itoa_no32 x)
          rw [e, hcut] at e3
          injection e3 with _ e4
          exact ⟨n, e4, hv⟩
        · rw [if_neg hv] at g1
          exact absurd g1 (by decide)
/-- Both sides read a text alike. -/
theorem parse_both (l : List UInt8) (hn : l.length ≤ 100000) : ∃ r : Int × List Int × Int, curve_Parse.f (B l) = some r ∧ Ev (fun k => frisketref19_Parse.f k (B l)) r ∧ r.2.1.length ≤ 40 := by
  obtain ⟨u, vs, hcut, h2, h3, h4⟩ := cutL_join l
  have hcl := cutL_len l
  rw [hcut, List.length_cons] at hcl
  have hsz : ∀ v ∈ vs, v.length ≤ 100000 := by
    intro v hv
    obtain ⟨a, b, rfl⟩ := List.append_of_mem hv
    have := congrArg List.length h2
    simp [tailL] at this
    omega
  have hp : curve_Parse.f (B l) = some (parseW (B l) (B u) (vs.map B)) := by
    unfold curve_Parse.f
    rw [splitW_B _ l (Nat.le_refl _), hcut, List.map_cons]
    simp only
    rw [if_pos ⟨by rw [size_B]; exact hn, by rw [List.length_cons, List.length_map]; omega, List.all_eq_true.2 (fun x hx => by
      obtain ⟨v, hv, rfl⟩ := List.mem_map.1 hx
      rw [size_B]
      exact decide_eq_true (hsz v hv))⟩]
  have hc := cut_f l hn
  rw [hcut] at hc
  have hr0 : rdOf ByteArray.empty ((u :: vs).map B) 0 = B u := rfl
  have step : ∀ r, Ev (fun k => if ((B u).size : Int) = 1 then frisketref19_Parse.l0 k (B l) ((u :: vs).map B) ([] : List Int) 1 else some (0, ([] : List Int), (4 : Int))) r → Ev (fun k => frisketref19_Parse.f k (B l)) r := by
    intro r hr
    refine Ev.bindNow (F := ?_) hc (fun k => ?_) ?_
    rotate_left 1
    · rw [frisketref19_Parse.f]
    refine Ev.congr (fun k => ?_) hr
    rw [if_pos (by rw [List.length_map, List.length_cons]; omega), hr0]
  by_cases hu : u.length = 1
  · obtain ⟨c, rfl⟩ := List.length_eq_one_iff.1 hu
    have hpos : 0 < l.length := by rw [h2]; simp
    have hbt : bt (B l) 0 = (c.toNat : Int) := by
      have e : l[0]'hpos = c := by simp only [h2]; rfl
      rw [show bt (B l) 0 = _ from bt_B l 0 hpos, e]
    obtain ⟨k1, k2⟩ := rparse_l l c vs hpos hbt (by omega) hsz vs.length 0 [] (by omega) rfl (by simp)
    obtain ⟨g1, g2⟩ := pparse_one l c vs hcut
    by_cases hg : ∃ n, Good c vs n
    · obtain ⟨n, hg⟩ := hg
      exact ⟨_, by rw [hp, g1 n hg], step _ (Ev.congr (fun k => by rw [if_pos (by rw [size_B]; rfl)]; rfl) (k1 n hg)), (valid_true hg.ok).2.1⟩
    · exact ⟨_, by rw [hp, g2 hg], step _ (Ev.congr (fun k => by rw [if_pos (by rw [size_B]; rfl)]; rfl) (k2 hg)), by simp⟩
  · refine ⟨(0, [], 4), ?_, step _ (Ev.congr (fun k => ?_) (Ev.now _)), by simp⟩
    · rw [hp]
      unfold parseW
      rw [if_pos (.inl (by rw [size_B]; exact hu))]
    · rw [if_neg (by rw [size_B]; omega)]
/-- What Write writes of a stroke is read back. -/
theorem parse_back (c : UInt8) (n : List Int) (hv : validF (c.toNat : Int) n = true) : curve_Parse.f (wrF c n).1 = some ((c.toNat : Int), n, 0) ∧ (wrF c n).2 = 0 := by
  obtain ⟨hc, hl, hb⟩ := valid_true hv
  have hw : wrF c n = (B (wrL c n), 0) := by unfold wrF; rw [if_pos hv]
  have hlen := wrL_len c n hb
  have h32 : (32 : UInt8) ∉ [c] := by
    intro h
    have := List.mem_singleton.1 h
    rcases hc with h | h | h | h | h <;> rw [h] at this <;> exact absurd this (by decide)
  have hcut : cutL (wrL c n) = [c] :: n.map Lib.itoa := by
    rw [wrL_tail]
    exact cutL_back _ _ h32 (fun v hv => by
      obtain ⟨x, _, rfl⟩ := List.mem_map.1 hv
      exact itoa_no32 x)
  have hg : Good c (n.map Lib.itoa) n := ⟨rfl, hv⟩
  rw [hw]
  refine ⟨?_, rfl⟩
  unfold curve_Parse.f
  rw [splitW_B _ _ (Nat.le_refl _), hcut, List.map_cons]
  simp only
  rw [if_pos ⟨by rw [size_B]; omega, by rw [List.length_cons, List.length_map, List.length_map]; omega, List.all_eq_true.2 (fun x hx => by
    obtain ⟨v, hv, rfl⟩ := List.mem_map.1 hx
    obtain ⟨y, hy, rfl⟩ := List.mem_map.1 hv
    have := hb y hy
    have := Lib.itoa_length_le y (by omega) (by omega)
    rw [size_B]
    exact decide_eq_true (by omega))⟩]
  exact congrArg some ((pparse_one (wrL c n) c _ hcut).1 n hg)
end Go.Proofs.YteiffkhkannfdaaDoor.Pure
