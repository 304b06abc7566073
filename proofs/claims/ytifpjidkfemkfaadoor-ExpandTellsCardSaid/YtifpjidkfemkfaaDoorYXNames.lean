/- Plain and Names, by the walk over escapes. -/
import Derived.Deep.AppendLies
import Derived.Deep.RegionLaw
import Derived.Test.YtifpjidkfemkfaaDoorYXWalk
import Derived.Test.YtifpjidkfemkfaaDoorYa0
set_option linter.unusedVariables false
set_option linter.unusedSimpArgs false
namespace Go.Proofs.YtifpjidkfemkfaaDoor
open Go.RowKit Go.Proofs.YtifpjidkfemkfaaDoorW.PrintWords Go.Proofs.YtifpjidkfemkfaaDoorW.PrintLast Go.Proofs.YtifpjidkfemkfaaDoorW.PrintMore Go.Proofs.YtifpjidkfemkfaaDoor.Xa
set_option linter.unusedVariables false
/-! ### Plain -/
def stP (x : Bool) (_ : Int) (_ _ : ByteArray) : Option (Bool × Bool) := some (true, false)
def plainF (s : ByteArray) : Option Bool := (walkF stP (s.size + 1) s false).bind fun q => some (!q.2 && !q.1)
def InvP (p : Nat) (x : Bool) (W : World) : Prop := W.heap[p]? = some (.cells #[.bool x] 4 (0, 0))
theorem kept_set {W : World} {p : Nat} {cs : Array Value} {t : TypeId} {fz : Nat × Nat} (h : W.heap[p]? = some (.cells cs t fz)) (ht : t ≠ 49) (v : Value) : Kept49 W (W.setCell ⟨p, 0, none⟩ v) := by
  intro i a fz' hi
  have hne : i ≠ p := by
    rintro rfl
    rw [h] at hi
    injection hi with hi
    injection hi with _ h2
    exact ht h2
  exact (Below.heap_setCell _ _ _ _ hne).trans hi
theorem kept_alloc (W : World) (o : Obj) : Kept49 W (W.alloc o) := fun i a fz hi => (Lib.alloc_old _ _ _ (Array.getElem?_eq_some_iff.1 hi).1).trans hi
theorem Kept49.trans {A B C : World} (h : Kept49 A B) (k : Kept49 B C) : Kept49 A C := fun i a fz hi => k i a fz (h i a fz hi)
theorem kept_below {W W' : World} (h : Below W.heap.size W W') : Kept49 W W' := fun i a fz hi => (h.block i (Array.getElem?_eq_some_iff.1 hi).1).trans hi
theorem each_plain (w : World) (b : Nat) (hb : b ≤ w.heap.size) : EachOk 27 b b (InvP b) stP w where
  low := hb
  keep := fun W W' x h hw => (hw.block _ (Array.getElem?_eq_some_iff.1 h).1).trans h
  call := by
    intro W x kd nm sp sz tx x' g hI hB hs
    simp only [stP, Option.some.injEq, Prod.mk.injEq] at hs
    obtain ⟨rfl, rfl⟩ := hs
    have hlt : b < W.heap.size := (Array.getElem?_eq_some_iff.1 hI).1
    have hc : W.cell? ⟨b, 0, none⟩ = some (.bool x) := (blk_cell hI 0).trans rfl
    have hf := blk_frozen hI 0
    have HI := Aside0.mk hI
    have HBW := Aside0.mk hB
    clear hI hB
    go_enter Tryd.func27, Tryd.ntmps27
    go_wp2
    go_ret
    refine ⟨rfl, ⟨?_, ?_, ?_, by simp; try omega⟩⟩
    · exact blk_alloc (blk_put HI.out 0 (.bool true) rfl) _
    · exact (HBW.out.setCell (p := ⟨b, 0, none⟩) (Nat.le_refl _) _).alloc (by simp; omega) _
    · exact (kept_set HI.out (by decide) _).trans (kept_alloc _ _)
set_option maxRecDepth 100000 in
theorem plain_calls (a0 : ByteArray) (r : Bool) (w : World) (h : plainF a0 = some r) :
    Calls Tryd.prog 15 #[.string a0] w fun e w' => e = .returned (.bool r) ∧ Below w.heap.size w w' := by
  unfold plainF at h
  obtain ⟨⟨c, y⟩, h1, h2⟩ := Option.bind_eq_some_iff.1 h
  simp only [Option.some.injEq] at h2
  subst h2
  have H1 := Aside0.mk h1
  clear h h1
  have hmf : ∀ (fn : Fn) (first cap : Array Value) (w : World), (Instr.makeFunc fn first cap).run Tryd.prog w = .ok (.func fn first cap) w := fun _ _ _ _ => rfl
  have eg : ∀ args w, (callFunc 27 args).run Tryd.prog w = .ok (.enter 27 args) w := enters_of Tryd.func27 (by kernel_rfl) rfl
  have HE := Aside0.mk (each_plain (w.alloc (.cells #[.bool false] 4)) w.heap.size (by simp))
  have HI := Aside0.mk (show InvP w.heap.size false (w.alloc (.cells #[.bool false] 4)) from blk_new _ _)
  go_enter Tryd.func15, Tryd.ntmps15
  go_wp2_with (go_at_call 26; (with_reducible refine (walk_calls _ _ _ _ _ _ eg HE.out HI.out H1.out).mono ?_); rintro e w1 ⟨rfl, HQ⟩; (have hc : w1.cell? ⟨w.heap.size, 0, none⟩ = some (.bool y) := (blk_cell HQ.out.1 0).trans rfl))
  all_goals
    have HF := Aside0.mk (Below.trans (below_one w (.cells #[.bool false] 4)) HQ.out.2)
    go_ret
    refine ⟨by first | (cases y <;> first | rfl | (simp_all; done)) | (simp_all; done), HF.out⟩
/-! ### Names -/
def txtOf (kd : Int) (nm : ByteArray) : ByteArray := (⟨#[kd.toNat.toUInt8]⟩ ++ ⟨#[58]⟩) ++ nm
def stN (F : ByteArray → Option (List ByteArray)) (x : List ByteArray) (kd : Int) (nm tx : ByteArray) : Option (List ByteArray × Bool) :=
  if kd = 119 then (F tx).bind fun r => if x.length + r.length < 1000000000 then some (x ++ r, true) else none
  else if (kd = 110 ∨ kd = 42 ∨ kd = 36) ∧ nm.size ≤ 1000000 ∧ x.length < 1000000000 then some (x ++ [txtOf kd nm], true) else none
def namesG : Nat → ByteArray → Option (List ByteArray)
  | 0, _ => none
  | k + 1, s => (walkF (stN fun t => namesG k t) (s.size + 1) s []).map (·.2)
def namesF (s : ByteArray) : Option (List ByteArray) := namesG (s.size + 1) s
def InvN (base p : Nat) (x : List ByteArray) (W : World) : Prop := ∃ v, W.heap[p]? = some (.cells #[v] 27 (0, 0)) ∧ Kd.R Kd.string 9 W base (fun _ => True) v x
theorem info9 : (Tryd.prog.info? 9).map (fun i => (i.zero, i.size, i.bytes)) = some (some (.string ⟨#[]⟩), 1, 16) := by kernel_rfl
def NamesOk (F : ByteArray → Option (List ByteArray)) : Prop := ∀ (s : ByteArray) (r : List ByteArray) (w : World), F s = some r →
    Calls Tryd.prog 17 #[.string s] w fun e w' => ∃ v0_ : Value, e = .returned v0_ ∧ Aside0 (Kd.R Kd.string 9 w' w.heap.size (fun _ => True) v0_ r ∧ Below w.heap.size w w')
theorem kept_grown {W W' : World} {row : Option Nat} (hg : W.grownBy W' row) (hr : ∀ g, row = some g → ∃ c t fz, W.heap[g]? = some (.cells c t fz) ∧ t ≠ 49) : Kept49 W W' := by
  intro i a fz hi
  refine (hg.block i (Array.getElem?_eq_some_iff.1 hi).1 ?_).trans hi
  intro e
  obtain ⟨c, t, fz', h1, h2⟩ := hr i e.symm
  rw [hi] at h1
  injection h1 with h1
  injection h1 with _ h3
  exact h2 h3.symm
set_option maxRecDepth 100000 in
/-- A name is laid behind what has been collected. -/
theorem names_one (kd : Int) (c : UInt8) (hkc : kd = (c.toNat : Int)) (hcv : ∀ w : World, (convert 5 9 (.int .u8 kd)).run Tryd.prog w = .ok (.string ⟨#[c]⟩) w) (h119 : (kd == 119) = false) (h119' : (kd != 119) = true)
    (base p : Nat) (hbp : base ≤ p) (w0 W : World) (x : List ByteArray) (nm : ByteArray) (sp sz : Int) (tx : ByteArray) (hl : x.length < 1000000000) (hn : nm.size ≤ 1000000) (hI : InvN base p x W) (hB : Below base w0 W) :
    Calls Tryd.prog 30 #[.agg #[.int .u8 kd, .string nm, .int .i64 sp, .int .i64 sz], .string tx, .pointer (some ⟨p, 0, none⟩)] W fun e W' => e = .returned (.bool true) ∧ Aside0 (InvN base p (x ++ [(⟨#[c]⟩ ++ ⟨#[58]⟩) ++ nm]) W' ∧ Below base w0 W' ∧ Kept49 W W' ∧ W.heap.size ≤ W'.heap.size) := by
  obtain ⟨v, hp, hR⟩ := hI
  have hlt : p < W.heap.size := (Array.getElem?_eq_some_iff.1 hp).1
  have hc : W.cell? ⟨p, 0, none⟩ = some v := (blk_cell hp 0).trans rfl
  have HP := Aside0.mk hp
  have HR := Aside0.mk hR
  have HB := Aside0.mk hB
  have LM := Aside0.mk hl
  clear hp hR hB hl hkc
  obtain ⟨t1, ht1⟩ : ∃ t : ByteArray, (⟨#[c]⟩ : ByteArray) ++ ⟨#[58]⟩ = t := ⟨_, rfl⟩
  have hs1 : t1.size = 2 := by rw [← ht1]; rfl
  have m1 : (9223372036854775807 < (⟨#[c]⟩ : ByteArray).size + (⟨#[58]⟩ : ByteArray).size) = False := eq_false (by show ¬ (9223372036854775807 < 1 + 1); omega)
  have m2 : (9223372036854775807 < t1.size + nm.size) = False := eq_false (by omega)
  have m2' : (9223372036854775807 < 2 + nm.size) = False := eq_false (by omega)
  obtain ⟨t2, ht2⟩ : ∃ t : ByteArray, t1 ++ nm = t := ⟨_, rfl⟩
  go_enter Tryd.func30, Tryd.ntmps30
  go_wp2_with (first | ((with_reducible refine gate_dst (N := 3) rfl ?_); refine box_event ?hg (N := 3) ?hd (cs := #[.int .u8 kd, .string nm, .int .i64 sp, .int .i64 sz]) (t := 49) ?hr ?_; (case hd => rfl); (case hg => rfl); (case hr => first | (go_simp; done) | (go_simp; rfl)); intro gb hgb W1 hbox hbb; (have HP1 := Aside0.mk ((hbb.block p hlt).trans HP.out)); (have HR1 := Aside0.mk (Kd.R_below HR.out hbb)); (have HBB := Aside0.mk (below_then HB.out (Nat.le_trans hbp (Nat.le_of_lt hlt)) hbb)); (have HW := Aside0.mk hbb); (have hcp : W1.cell? ⟨p, 0, none⟩ = some v := (blk_cell HP1.out 0).trans rfl); (have hcz0 : W1.cell? ⟨gb, 0, none⟩ = some (.int .u8 kd) := (blk_cell hbox 0).trans rfl); (have hcz1 : W1.cell? ⟨gb, 1, none⟩ = some (.string nm) := (blk_cell hbox 1).trans rfl); (have HX := Aside0.mk hbox); (have HS := Aside0.mk hgb); clear hbox hbb hgb) | ((with_reducible refine gate_builtin (b := .append) (xs := #[.tmp 13, .tmp 21]) rfl ?_); at_builtin; refine Kd.R_append Kd.string (w0 := w0) base rfl (.tmp 13) (.tmp 21) 27 9 (.string ⟨#[]⟩) 16 rfl Tryd.underlying27 info9 rfl (by decide) (by omega) v x t2 [.string t2] (fun _ => True) (fun _ => False) rfl rfl ?aP (fun _ hk => hk.elim) ?aF ?aO ?aB ?aS ?aL ?_; (case aP => exact rfl); (case aB => exact HBB.out); (case aF => exact (fun _ _ => trivial)); (case aO => exact HR1.out); (case aS => have := HW.out.size; omega); (case aL => have := LM.out; omega); intro v1 w1 ho hb hg hat; (obtain ⟨A1, c1, ev1⟩ := Kd.R_slice ho); subst ev1; (have hp1 := blk_grown HP1.out hg (Kd.R_ne HR1.out HP1.out (by decide))); (have HP2 := Aside0.mk hp1); (have hc1 : w1.cell? ⟨p, 0, none⟩ = some v := (blk_cell hp1 0).trans rfl); (have hf1 := blk_frozen hp1 0); (have HO := Aside0.mk ho); (have HB1 := Aside0.mk hb); (have HG := Aside0.mk hg); clear ho hb hg hat hp1))
  go_ret
  subst ht2
  subst ht1
  have HO2 := HO.out
  rw [List.length_append, List.length_singleton] at HO2
  refine ⟨rfl, ⟨⟨_, blk_put HP2.out 0 _ rfl, Kd.R_set HO2 HP2.out (by simp [Kd.string, Kd.scalar]) 0 _⟩, HB1.out.setCell (p := ⟨p, 0, none⟩) hbp _, ?_, ?_⟩⟩
  · refine ((kept_below HW.out).trans (kept_grown HG.out ?_)).trans (kept_set HP2.out (by decide) _)
    intro g hgr
    obtain ⟨_, _, _, q, hq, cs, hcs⟩ := (Kd.R_bound HR1.out).1 g hgr
    refine ⟨cs, q, _, hcs, ?_⟩
    have : q = 9 := by simpa [Kd.string, Kd.scalar] using hq
    subst this
    decide
  · have h1 := HG.out.size
    have h2 := HW.out.size
    simp at h1 h2 ⊢
    omega
theorem below_same {B : Nat} {w w' : World} (h : Below B w.drew w') : Below B w w' := ⟨h.os, h.tape, h.output, h.size, h.block⟩
set_option maxRecDepth 100000 in
/-- The names in a width's text are laid behind what has been collected. -/
theorem names_deep {F : ByteArray → Option (List ByteArray)} (hF : NamesOk F) (base p : Nat) (hbp : base ≤ p) (w0 W : World) (x r : List ByteArray) (nm : ByteArray) (sp sz : Int) (tx : ByteArray) (hr : F tx = some r) (hl : x.length + r.length < 1000000000) (hI : InvN base p x W) (hB : Below base w0 W) :
    Calls Tryd.prog 30 #[.agg #[.int .u8 119, .string nm, .int .i64 sp, .int .i64 sz], .string tx, .pointer (some ⟨p, 0, none⟩)] W fun e W' => e = .returned (.bool true) ∧ Aside0 (InvN base p (x ++ r) W' ∧ Below base w0 W' ∧ Kept49 W W' ∧ W.heap.size ≤ W'.heap.size) := by
  obtain ⟨v, hp, hR⟩ := hI
  have hlt : p < W.heap.size := (Array.getElem?_eq_some_iff.1 hp).1
  obtain ⟨Av, cv, ev⟩ := Kd.R_slice hR
  subst ev
  have HP := Aside0.mk hp
  have HR := Aside0.mk hR
  have HB := Aside0.mk hB
  have LM := Aside0.mk hl
  have HF := Aside0.mk hr
  clear hp hR hB hl hr
  go_enter Tryd.func30, Tryd.ntmps30
  go_wp2_with (first | ((with_reducible refine gate_dst (N := 3) rfl ?_); refine box_event ?hg (N := 3) ?hd (cs := #[.int .u8 119, .string nm, .int .i64 sp, .int .i64 sz]) (t := 49) ?hr ?_; (case hd => rfl); (case hg => rfl); (case hr => first | (go_simp; done) | (go_simp; rfl)); intro gb hgb W1 hbox hbb; (have HP1 := Aside0.mk ((hbb.block p hlt).trans HP.out)); (have HR1 := Aside0.mk (Kd.R_below HR.out hbb)); (have HBB := Aside0.mk (below_then HB.out (Nat.le_trans hbp (Nat.le_of_lt hlt)) hbb)); (have HW := Aside0.mk hbb); (have hcp : W1.cell? ⟨p, 0, none⟩ = some (.slice Av x.length cv) := (blk_cell HP1.out 0).trans rfl); (have hcz0 : W1.cell? ⟨gb, 0, none⟩ = some (.int .u8 119) := (blk_cell hbox 0).trans rfl); (have hcz1 : W1.cell? ⟨gb, 1, none⟩ = some (.string nm) := (blk_cell hbox 1).trans rfl); (have HX := Aside0.mk hbox); (have HS := Aside0.mk hgb); clear hbox hbb hgb))
  have HFF := Aside0.mk hF
  clear hF
  go_region_law (first | (refine Kd.R_append_rows_step Kd.string (w0 := w0) base rfl (.tmp 9) (.tmp 11) 27 9 (.string ⟨#[]⟩) 16 rfl Tryd.underlying27 info9 rfl (by decide) (by decide) (.slice Av x.length cv) x r A2 r.length c2 (fun _ => True) (fun _ => False) rfl rfl HR2.out HA2.out (fun _ _ h => h) (fun _ h => h.elim) (fun _ _ => trivial) HB2.out (Nat.le_trans (Nat.le_trans hbp (Nat.le_of_lt hlt)) (Nat.le_trans HW.out.size H2.out.2.size)) (by have := LM.out; omega) ?_; intro v1 w3 ho hb hg hat; (obtain ⟨A3, c3, ev3⟩ := Kd.R_slice ho); subst ev3; (have hp1 := blk_grown HP2.out hg (Kd.R_ne HR2.out HP2.out (by decide))); (have HP3 := Aside0.mk hp1); (have hc1 : w3.cell? ⟨p, 0, none⟩ = some (.slice Av x.length cv) := (blk_cell hp1 0).trans rfl); (have hf1 := blk_frozen hp1 0); (have HO := Aside0.mk ho); (have HB3 := Aside0.mk hb); (have HG := Aside0.mk hg); clear ho hb hg hat hp1) | (go_simp; go_at_call 17; ( (refine (HFF.out tx r _ HF.out).mono ?_); rintro e w2 ⟨v2, rfl, H2⟩; (obtain ⟨A2, c2, ev2⟩ := Kd.R_slice H2.out.1); subst ev2; (have HR2 := Aside0.mk (Kd.R_below HR1.out (below_same H2.out.2))); (have HP2 := Aside0.mk (((below_same H2.out.2).block p (Nat.lt_of_lt_of_le hlt HW.out.size)).trans HP1.out)); (have HB2 := Aside0.mk (below_then HBB.out (Nat.le_trans (Nat.le_trans hbp (Nat.le_of_lt hlt)) HW.out.size) (below_same H2.out.2))); (have HA2 := Aside0.mk (Kd.R_reads' H2.out.1).2.2); (have hcp2 : w2.cell? ⟨p, 0, none⟩ = some (.slice Av x.length cv) := (blk_cell HP2.out 0).trans rfl))))
  all_goals
    go_wp2
    go_ret
    have HO2 := HO.out
    rw [List.length_append] at HO2
    refine ⟨rfl, ⟨⟨_, blk_put HP3.out 0 _ rfl, Kd.R_set HO2 HP3.out (by simp [Kd.string, Kd.scalar]) 0 _⟩, HB3.out.setCell (p := ⟨p, 0, none⟩) hbp _, ?_, ?_⟩⟩
    · refine (((kept_below HW.out).trans (kept_below (below_same H2.out.2))).trans (kept_grown HG.out ?_)).trans (kept_set HP3.out (by decide) _)
      intro g hgr
      obtain ⟨_, _, _, q, hq, cs, hcs⟩ := (Kd.R_bound HR2.out).1 g hgr
      refine ⟨cs, q, _, hcs, ?_⟩
      have : q = 9 := by simpa [Kd.string, Kd.scalar] using hq
      subst this
      decide
    · have h1 := HG.out.size
      have h2 := HW.out.size
      have h3 := (below_same H2.out.2).size
      simp at h1 h2 h3 ⊢
      omega
/-- Whatever function value Names hands to the walk keeps its list. -/
theorem each_names {F : ByteArray → Option (List ByteArray)} (hF : NamesOk F) (w : World) (b : Nat) (hb : b ≤ w.heap.size) : EachOk 30 b b (InvN b b) (stN F) w where
  low := hb
  keep := fun W W' x ⟨v, h1, h2⟩ hw => ⟨v, (hw.block _ (Array.getElem?_eq_some_iff.1 h1).1).trans h1, Kd.R_below h2 hw⟩
  call := by
    intro W x kd nm sp sz tx x' g hI hB hs
    unfold stN at hs
    by_cases h1 : kd = 119
    · rw [if_pos h1] at hs
      obtain ⟨r, h2, h3⟩ := Option.bind_eq_some_iff.1 hs
      by_cases h4 : x.length + r.length < 1000000000
      · rw [if_pos h4] at h3
        simp only [Option.some.injEq, Prod.mk.injEq] at h3
        obtain ⟨rfl, rfl⟩ := h3
        subst h1
        exact names_deep hF b b (Nat.le_refl _) w W x r nm sp sz tx h2 h4 hI hB
      · rw [if_neg h4] at h3
        cases h3
    · rw [if_neg h1] at hs
      by_cases h2 : (kd = 110 ∨ kd = 42 ∨ kd = 36) ∧ nm.size ≤ 1000000 ∧ x.length < 1000000000
      · rw [if_pos h2] at hs
        simp only [Option.some.injEq, Prod.mk.injEq] at hs
        obtain ⟨rfl, rfl⟩ := hs
        obtain ⟨hk, hn, hl⟩ := h2
        rcases hk with rfl | rfl | rfl
        · exact names_one 110 110 rfl (fun w => by kernel_rfl) rfl rfl b b (Nat.le_refl _) w W x nm sp sz tx hl hn hI hB
        · exact names_one 42 42 rfl (fun w => by kernel_rfl) rfl rfl b b (Nat.le_refl _) w W x nm sp sz tx hl hn hI hB
        · exact names_one 36 36 rfl (fun w => by kernel_rfl) rfl rfl b b (Nat.le_refl _) w W x nm sp sz tx hl hn hI hB
      · rw [if_neg h2] at hs
        cases hs
set_option maxRecDepth 100000 in
theorem names_ok : ∀ k, NamesOk (fun s => namesG k s)
  | 0 => fun s r w h => by simp [namesG] at h
  | k + 1 => by
    intro a0 r w h
    have ih := names_ok k
    simp only [namesG, Option.map_eq_some_iff] at h
    obtain ⟨⟨c, y⟩, h1, h2⟩ := h
    simp only at h2
    subst h2
    have H1 := Aside0.mk h1
    clear h1
    have hmf : ∀ (fn : Fn) (first cap : Array Value) (w : World), (Instr.makeFunc fn first cap).run Tryd.prog w = .ok (.func fn first cap) w := fun _ _ _ _ => rfl
    have eg : ∀ args w, (callFunc 30 args).run Tryd.prog w = .ok (.enter 30 args) w := enters_of Tryd.func30 (by kernel_rfl) rfl
    have HE := Aside0.mk (each_names ih (w.alloc (.cells #[.slice none 0 0] 27)) w.heap.size (by simp))
    have HI := Aside0.mk (show InvN w.heap.size w.heap.size [] (w.alloc (.cells #[.slice none 0 0] 27)) from ⟨_, blk_new _ _, Kd.R_nil _ _ _ _ _⟩)
    clear ih
    go_enter Tryd.func17, Tryd.ntmps17
    go_wp2_with (go_at_call 26; (with_reducible refine (walk_calls _ _ _ _ _ _ eg HE.out HI.out H1.out).mono ?_); rintro e w1 ⟨rfl, HQ⟩; (obtain ⟨v, hv, hr⟩ := HQ.out.1); (have HR := Aside0.mk hr); (have hc : w1.cell? ⟨w.heap.size, 0, none⟩ = some v := (blk_cell hv 0).trans rfl); clear hv hr)
    go_ret
    exact ⟨v, rfl, ⟨HR.out, Below.trans (below_one w (.cells #[.slice none 0 0] 27)) HQ.out.2⟩⟩
theorem names_calls (a0 : ByteArray) (r : List ByteArray) (w : World) (h : namesF a0 = some r) :
    Calls Tryd.prog 17 #[.string a0] w fun e w' => ∃ v0_ : Value, e = .returned v0_ ∧ Kd.R Kd.string 9 w' w.heap.size (fun _ => True) v0_ r ∧ Below w.heap.size w w' :=
  (names_ok _ a0 r w h).mono fun _ _ ⟨v, h1, h2⟩ => ⟨v, h1, h2.out⟩
end Go.Proofs.YtifpjidkfemkfaaDoor
