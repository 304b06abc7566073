/- The walk of the fixed example: Expand of five bytes, asked of one who answers always the same. -/
import Derived.Defers
import Derived.Recover
import Derived.Test.YtifpjidkfemkfaaDoorYXAsk
import Derived.Test.YtifpjidkfemkfaaDoorYa0
import Derived.Test.YtifpjidkfemkfaaDoorYa1
set_option linter.unusedVariables false
set_option linter.unusedSimpArgs false
namespace Go.Proofs.YtifpjidkfemkfaaDoor
open Go.RowKit Go.Proofs.YtifpjidkfemkfaaDoorW.PrintWords Go.Proofs.YtifpjidkfemkfaaDoorW.PrintLast Go.Proofs.YtifpjidkfemkfaaDoor.Xa
set_option linter.unusedVariables false
theorem fixed_calls (a c : Int) (b : ByteArray) (w : World) : Calls Tryd.prog 12 #[.int .u8 a, .string b, .int .i64 c] w fun e w' => e = .returned (.string ⟨#[51]⟩) ∧ w' = w := by
  go_enter Tryd.func12, Tryd.ntmps12
  go_wp2
  go_ret
  exact ⟨rfl, rfl⟩
theorem ask_calls (R : Nat) (k s : Int) (nm : ByteArray) (w : World) (h0 : w.cell? ⟨R, 0, none⟩ = some (.func (.func 12) #[] #[])) (h2 : w.cell? ⟨R, 2, none⟩ = some (.int .i64 0)) (hf : w.frozen? ⟨R, 2, none⟩ = false) :
    Calls Tryd.prog 39 #[.pointer (some ⟨R, 0, none⟩), .int .u8 k, .string nm, .int .i64 s] w fun e w' => e = .returned (.string ⟨#[51]⟩) ∧ w' = w.setCell ⟨R, 2, none⟩ (.int .i64 1) := by
  go_enter Tryd.func39, Tryd.ntmps39
  go_wp2_with (go_at_call 12; refine (fixed_calls _ _ _ _).mono ?_; rintro e w' ⟨rfl, rfl⟩)
  go_ret
  exact ⟨rfl, rfl⟩
theorem lt_of_heap {w : World} {i : Nat} {o : Obj} (h : w.heap[i]? = some o) : i < w.heap.size := (Array.getElem?_eq_some_iff.1 h).1
theorem c36a (w : World) : Calls Tryd.prog 36 #[.string ⟨#[97, 92, 110, 120, 98]⟩, .int .u8 92] w fun e w' => e = .returned (.int .i64 1) ∧ w' = w :=
  (Tryd.strings_IndexByte ⟨#[97, 92, 110, 120, 98]⟩ 92 w).mono fun e w' ⟨h1, h2⟩ => ⟨h1, h2⟩
theorem c36b (w : World) : Calls Tryd.prog 36 #[.string ⟨#[98]⟩, .int .u8 92] w fun e w' => e = .returned (.int .i64 (-1)) ∧ w' = w :=
  (Tryd.strings_IndexByte ⟨#[98]⟩ 92 w).mono fun e w' ⟨h1, h2⟩ => ⟨h1, h2⟩
theorem c38a (w : World) : Calls Tryd.prog 38 #[.string ⟨#[92, 110, 120, 98]⟩] w fun e w' => e = .returned (.tuple #[.agg #[.int .u8 110, .string ⟨#[120]⟩, .int .i64 0, .int .i64 3], .bool true]) ∧ Aside0 (Below w.heap.size w w') :=
  (asks_calls ⟨#[92, 110, 120, 98]⟩ 110 ⟨#[120]⟩ 0 3 true w (by decide +kernel)).mono fun e w' ⟨h1, h2⟩ => ⟨h1, ⟨h2⟩⟩
theorem WriteString (B b : Nat) (bs : List Value) (s : ByteArray) (w : World) (h : Lib.IsBuilderF 69 5 B b bs w) (hlen : bs.length + s.size ≤ 140737488355328) (hBw : B ≤ w.heap.size) :
    Calls Tryd.prog 37 #[.pointer (some ⟨b, 0, none⟩), .string s] w fun e w' => e = .returned (.tuple #[.int .i64 s.size, .nilIface]) ∧ Aside0 (Lib.IsBuilderF 69 5 B b (bs ++ Lib.strCells s) w' ∧ Below B w w' ∧ Lib.OthersKept 5 (some b) w w') :=
  (Any.Builder_WriteString_k (P := Tryd.prog) (ρ := Tryd.lays155_ren) { Tryd.lays155 with } Tryd.Builder_Extra_155 B b bs s w h hlen hBw).mono fun e w' ⟨h1, h2, h3, h4⟩ => ⟨h1, ⟨.inr h2, h3, h4⟩⟩
/-- Where the example stands: the builder's bytes, the reader's questions, and what is below. -/
abbrev At5 (w : World) (R : Nat) (l : List UInt8) (n : Int) (W : World) : Prop :=
  Lib.IsBuilderF 69 5 w.heap.size w.heap.size (Lib.byteCells l) W ∧ W.heap[R]? = some (.cells #[.func (.func 12) #[] #[], .bool false, .int .i64 n] 44 (0, 0)) ∧ Below R w W
theorem builder_kept {T e : TypeId} {B b : Nat} {bs : List Value} {W W' : World} (h : Lib.IsBuilderF T e B b bs W) (hk : ∀ i, B ≤ i → i < W.heap.size → W'.heap[i]? = W.heap[i]?) : Lib.IsBuilderF T e B b bs W' := by
  have key : ∀ p, Lib.BuilderAtF T e B b p bs W → Lib.BuilderAtF T e B b p bs W' := by
    intro p ⟨hB, v, hb, hown, hne⟩
    refine ⟨hB, v, (hk b hB (lt_of_heap hb)).trans hb, ⟨hown.1, ?_⟩, hne⟩
    rcases hown.2 with h1 | ⟨g, cap, cur, fz, h1, h2, h3, h4⟩
    · exact .inl h1
    · exact .inr ⟨g, cap, cur, fz, h1, h2, (hk g h2 (lt_of_heap h3)).trans h3, h4⟩
  exact h.imp (key _) (key _)
theorem builder_lt {T e : TypeId} {B b : Nat} {bs : List Value} {W : World} (h : Lib.IsBuilderF T e B b bs W) : b < W.heap.size := h.elim (·.lt) (·.lt)
abbrev call5 : Obj := .cells #[.int .u8 110, .string ⟨#[120]⟩, .int .i64 0, .int .i64 3] 49 (0, 0)
theorem stage1 {R : Nat} {w w' W1 W2 : World} (RN : R < w.heap.size) (HA : At5 w R [] 0 w')
    (H1 : Lib.IsBuilderF 69 5 w.heap.size w.heap.size (Lib.byteCells [] ++ Lib.strCells ⟨#[97]⟩) W1 ∧ Below w.heap.size w' W1 ∧ Lib.OthersKept 5 (some w.heap.size) w' W1) (H2 : Below W1.heap.size W1 W2) :
    At5 w R [97] 0 (W2.alloc call5) := by
  have hs : w.heap.size ≤ W1.heap.size := Nat.le_trans HA.2.2.size H1.2.1.size
  refine ⟨?_, ?_, ?_⟩
  · refine builder_kept (W := W1) H1.1 (fun i hi hlt => ?_)
    rw [Lib.alloc_old _ _ _ (Nat.lt_of_lt_of_le hlt H2.size)]
    exact H2.block i hlt
  · have h1 := H1.2.2 R _ HA.2.1 (by intro e; injection e; omega) (by intro c fz e; injection e with _ e2; exact absurd e2 (by decide))
    have h2 := (H2.block R (lt_of_heap h1)).trans h1
    rw [Lib.alloc_old _ _ _ (lt_of_heap h2)]
    exact h2
  · have b1 : Below R w W1 := HA.2.2.trans (H1.2.1.mono (Nat.le_of_lt RN))
    have b2 : Below R w W2 := b1.trans (H2.mono (by omega))
    exact b2.alloc (by have := H2.size; omega) _
theorem stage2 {R : Nat} {w W : World} {c : Nat} {o : Obj} (RN : R < w.heap.size) (hc : c ≠ R) (HA : At5 w R [97] 0 W) (ho : W.heap[c]? = some o) :
    At5 w R [97] 1 (W.setCell ⟨R, 2, none⟩ (.int .i64 1)) ∧ (W.setCell ⟨R, 2, none⟩ (.int .i64 1)).heap[c]? = some o := by
  have hold : ∀ i, i ≠ R → (W.setCell ⟨R, 2, none⟩ (.int .i64 1)).heap[i]? = W.heap[i]? := fun i hi => Below.heap_setCell _ _ _ _ (fun e => hi e)
  refine ⟨⟨?_, ?_, ?_⟩, ?_⟩
  · exact builder_kept HA.1 (fun i hi _ => hold i (by omega))
  · have h1 := HA.2.1
    simp only [World.setCell, Array.getElem?_modify, if_true, h1, Option.map_some]
    rfl
  · exact HA.2.2.setCell (Nat.le_refl _) _
  · exact (hold c hc).trans ho
theorem stage3 {R N : Nat} {w W3 W4 : World} {c : Nat} (hN : N = w.heap.size) (RN : R < w.heap.size) (HA : At5 w R [97] 1 W3) (hc : W3.heap[c]? = some call5) (hcN : c ≠ w.heap.size)
    (H1 : Lib.IsBuilderF 69 5 w.heap.size w.heap.size (Lib.byteCells [97] ++ Lib.strCells ⟨#[51]⟩) W4 ∧ Below w.heap.size W3 W4 ∧ Lib.OthersKept 5 (some w.heap.size) W3 W4) :
    At5 w R [97, 51] 1 W4 ∧ W4.heap[c]? = some call5 := by
  refine ⟨⟨H1.1, ?_, HA.2.2.trans (H1.2.1.mono (Nat.le_of_lt RN))⟩, ?_⟩
  · exact H1.2.2 R _ HA.2.1 (by intro e; injection e; omega) (by intro c fz e; injection e with _ e2; exact absurd e2 (by decide))
  · exact H1.2.2 c _ hc (by intro e; injection e; omega) (by intro c fz e; injection e with _ e2; exact absurd e2 (by decide))
set_option maxRecDepth 100000 in
theorem five_calls (R : Nat) (w : World) (hR : w.heap[R]? = some (.cells #[.func (.func 12) #[] #[], .bool false, .int .i64 0] 44 (0, 0))) :
    Calls Tryd.prog 23 #[.pointer (some ⟨R, 0, none⟩), .string ⟨#[97, 92, 110, 120, 98]⟩] w fun e w' => e = .returned (.string ⟨#[97, 51, 98]⟩) ∧ Aside0 (Below R w w') := by
  have HR := Aside0.mk hR
  clear hR
  go_enter Tryd.func23, Tryd.ntmps23
  go_wp2
  go_loopg [1] 2 (fun gf s wx => gf = 2 ∧ s = .string ⟨#[97, 92, 110, 120, 98]⟩ ∧ Aside0 (At5 w R [] 0 wx) ∨ gf = 1 ∧ s = .string ⟨#[98]⟩ ∧ Aside0 (At5 w R [97, 51] 1 wx))
  case atStart =>
    refine .inl ⟨rfl, rfl, ⟨Lib.IsBuilderF.of (Lib.fresh_isBuilder _ _ _), (Lib.alloc_old _ _ _ (lt_of_heap HR.out)).trans HR.out, (Below.refl R w).alloc (Nat.le_of_lt (lt_of_heap HR.out)) _⟩⟩
  case round =>
    have RN := Aside0.mk (lt_of_heap HR.out)
    clear HR
    rcases hrel with ⟨rfl, rfl, HA⟩ | ⟨rfl, rfl, HA⟩
    · have e1 : (⟨#[97, 92, 110, 120, 98]⟩ : ByteArray).extract 0 1 = ⟨#[97]⟩ := by decide
      have e2 : (⟨#[97, 92, 110, 120, 98]⟩ : ByteArray).extract 1 5 = ⟨#[92, 110, 120, 98]⟩ := by decide
      have e3 : (⟨#[92, 110, 120, 98]⟩ : ByteArray).extract 3 4 = ⟨#[98]⟩ := by decide
      have e4 : (Lib.byteCells [97, 51]).length = 2 := rfl
      have e5 : (⟨#[]⟩ : ByteArray) ++ ⟨#[98]⟩ = ⟨#[98]⟩ := by decide
      go_wp2_with (first | (go_at_call 36; (with_reducible refine (c36a _).mono ?_); rintro e w' ⟨rfl, rfl⟩) | (go_at_call 37; (with_reducible refine (WriteString _ _ _ ⟨#[97]⟩ _ HA.out.1 (by decide) (by have := HA.out.2.2.size; omega)).mono ?_); rintro e W1 ⟨rfl, H1⟩) | (go_at_call 38; (with_reducible refine (c38a _).mono ?_); rintro e W2 ⟨rfl, H2⟩; (have HB := Aside0.mk (stage1 RN.out HA.out H1.out H2.out)); (have NW := Aside0.mk (Nat.lt_of_lt_of_le (builder_lt HA.out.1) (Nat.le_trans H1.out.2.1.size H2.out.size))); (have RW := Aside0.mk (Nat.lt_trans RN.out NW.out))) | (go_at_call 39; (with_reducible refine (ask_calls R _ _ _ _ ((Lib.cell_of_heap HB.out.2.1 0).trans rfl) ((Lib.cell_of_heap HB.out.2.1 2).trans rfl) (Lib.frozen_of_heap HB.out.2.1 2)).mono ?_); rintro e w' ⟨rfl, rfl⟩; (have HC := Aside0.mk (stage2 RN.out (Nat.ne_of_gt RW.out) HB.out (heap_alloc_new W2 call5)))) | (go_at_call 37; (with_reducible refine (WriteString _ _ _ ⟨#[51]⟩ _ HC.out.1.1 (by decide) (by have := HC.out.1.2.2.size; exact this)).mono ?_); rintro e W4 ⟨rfl, H4⟩; (have HD := Aside0.mk (stage3 rfl RN.out HC.out.1 HC.out.2 (Nat.ne_of_gt NW.out) H4.out)); (have hz := (Lib.cell_of_heap HD.out.2 3).trans rfl)) | (go_at_call 40; (with_reducible refine (Tryd.Builder_Len_f _ _ _ _ HD.out.1.1).mono ?_); rintro e w' ⟨rfl, rfl⟩))
      go_roundg 1
      case measure => omega
      case rel => exact .inr ⟨rfl, rfl, ⟨HD.out.1⟩⟩
    · go_wp2_with (first | (go_at_call 36; (with_reducible refine (c36b _).mono ?_); rintro e w' ⟨rfl, rfl⟩) | (go_at_call 37; (with_reducible refine (WriteString _ _ _ ⟨#[98]⟩ _ HA.out.1 (by decide) (by have := HA.out.2.2.size; exact this)).mono ?_); rintro e W1 ⟨rfl, H1⟩) | (go_at_call 42; (with_reducible refine (Tryd.Builder_String_any_k _ _ [97, 51, 98] _ H1.out.1 (Nat.le_trans HA.out.2.2.size H1.out.2.1.size)).mono ?_); rintro e W2 ⟨rfl, H2⟩; (have H2' := Aside0.mk H2); clear H2))
      go_ret
      exact ⟨rfl, ⟨(HA.out.2.2.trans (H1.out.2.1.mono (Nat.le_of_lt RN.out))).trans (H2'.out.2.1.mono (Nat.le_of_lt RN.out))⟩⟩
set_option maxRecDepth 100000 in
theorem fits5 (w : World) : Calls Tryd.prog 21 #[.string ⟨#[97, 92, 110, 120, 98]⟩] w fun e w' => e = .returned (.bool true) ∧ Drawn0 w w' :=
  expand_fits.calls ⟨#[97, 92, 110, 120, 98]⟩ true w (by decide +kernel)
theorem catch_idle (p q : Addr) (w : World) :
    CallsD Tryd.prog 22 #[.pointer (some p), .pointer (some q)] .returning w fun e u' w' => e = .returned (.tuple #[]) ∧ u' = .returning ∧ w' = w := by
  refine callsD_of_wpS Tryd.func22 rfl fun c₀ cs hu => ?_
  apply wpS_seq
  apply wpS_region
  simp [wpOpsS, go_sem, recoverD, hu, Tryd.ntmps22, Exit.thenS]
  apply wpS_seq
  apply wpS_region
  simp [wpOpsS, go_sem, Exit.thenS]
  refine wpS_cond (t := false) (by simp [Act.eval, Array.replicate]) ?_
  simp only [Bool.false_eq_true, if_false]
  refine wpS_of_wp (wp_skip ?_)
  cases c₀
  simp_all [bodyPostS, results, Tryd.results22]
set_option maxRecDepth 100000 in
theorem Expand5 (w : World) : Calls Tryd.prog 11 #[.string ⟨#[97, 92, 110, 120, 98]⟩, .bool false, .func (.func 12) #[] #[]] w fun e w' => e = .returned (.tuple #[.string ⟨#[97, 51, 98]⟩, .int .i64 0]) ∧ Aside0 (Below w.heap.size w w') := by
  have hmf : ∀ (fn : Fn) (first cap : Array Value) (w : World), (Instr.makeFunc fn first cap).run Tryd.prog w = .ok (.func fn first cap) w := fun _ _ _ _ => rfl
  have hnf : ∀ w : World, (binOp .eql 38 (.func (.func 12) #[] #[]) .nilFunc).run Tryd.prog w = .ok (.bool false) w := fun w => by kernel_rfl
  have hR : ∀ (W : World), W.heap.size = w.heap.size + 1 + 1 → (W.alloc (.cells #[.func (.func 12) #[] #[], .bool false, .int .i64 0] 44)).heap[w.heap.size + 1 + 1]? = some (.cells #[.func (.func 12) #[] #[], .bool false, .int .i64 0] 44 (0, 0)) := fun W h => by rw [← h]; exact heap_alloc_new W _
  go_enter_defers Tryd.func11, Tryd.ntmps11
  go_wp2_with (first | (go_at_call 21; (with_reducible refine (fits5 _).mono ?_); rintro e w1 ⟨rfl, ⟨nd, rfl⟩⟩) | (go_at_call 23; (with_reducible refine (five_calls _ _ (hR _ (by simp))).mono ?_); rintro e w2 ⟨rfl, H2⟩; (have hc := fun b o (hb : b < w.heap.size + 1 + 1) => H2.out.cell (p := ⟨b, o, none⟩) hb); (have hf := fun b o (hb : b < w.heap.size + 1 + 1) => H2.out.frozen (p := ⟨b, o, none⟩) hb); (have hz : w.heap.size + 1 < w2.heap.size := by have := H2.out.size; simp at this; omega)))
  refine leaves_cons (f := 22) (args := #[.pointer (some ⟨w.heap.size, 0, none⟩), .pointer (some ⟨w.heap.size + 1, 0, none⟩)]) (by simp) (by simp [go_sem]) ?_
  refine (catch_idle _ _ _).mono ?_
  rintro e u' w'' ⟨rfl, rfl, rfl⟩
  have ha0 : w2.cell? ⟨w.heap.size, 0, none⟩ = some (.string ⟨#[]⟩) := by rw [hc _ _ (by omega)]; go_simp
  have hb0 : w2.cell? ⟨w.heap.size + 1, 0, none⟩ = some (.int .i64 0) := by rw [hc _ _ (by omega)]; go_simp
  have hb1 : (w2.setCell ⟨w.heap.size, 0, none⟩ (.string ⟨#[97, 51, 98]⟩)).cell? ⟨w.heap.size + 1, 0, none⟩ = some (.int .i64 0) := by rw [World.cell?_setCell_other (h := by intro e; injection e with e1; omega)]; exact hb0
  have hA : ((w2.setCell ⟨w.heap.size, 0, none⟩ (.string ⟨#[97, 51, 98]⟩)).setCell ⟨w.heap.size + 1, 0, none⟩ (.int .i64 0)).cell? ⟨w.heap.size, 0, none⟩ = some (.string ⟨#[97, 51, 98]⟩) := by
    rw [World.cell?_setCell_other (h := by intro e; injection e with e1; omega), World.cell?_setCell_same (h := ha0)]
  have hB : ((w2.setCell ⟨w.heap.size, 0, none⟩ (.string ⟨#[97, 51, 98]⟩)).setCell ⟨w.heap.size + 1, 0, none⟩ (.int .i64 0)).cell? ⟨w.heap.size + 1, 0, none⟩ = some (.int .i64 0) := by
    rw [World.cell?_setCell_same (h := hb1)]
  have HW : Below w.heap.size w ((w2.setCell ⟨w.heap.size, 0, none⟩ (.string ⟨#[97, 51, 98]⟩)).setCell ⟨w.heap.size + 1, 0, none⟩ (.int .i64 0)) := by
    refine ((Below.trans (B := w.heap.size) ?_ (H2.out.mono (show w.heap.size ≤ w.heap.size + 1 + 1 by omega))).setCell (p := ⟨w.heap.size, 0, none⟩) (Nat.le_refl _) _).setCell (p := ⟨w.heap.size + 1, 0, none⟩) (Nat.le_add_right _ _) _
    exact below_alloc (pw_below_drewN (below_alloc (below_alloc (Below.refl _ _) _) _) _) _
  clear hc hf
  have HW' := Aside0.mk (Aside0.mk HW)
  clear HW
  generalize ((w2.setCell ⟨w.heap.size, 0, none⟩ (.string ⟨#[97, 51, 98]⟩)).setCell ⟨w.heap.size + 1, 0, none⟩ (.int .i64 0)) = W3 at hA hB HW' ⊢
  simp [Leaves, settle, results, Tryd.results11, go_sem, hA, hB]
  exact HW'.out
set_option maxRecDepth 100000 in
theorem sane_calls (w : World) : Calls Tryd.prog 5 #[] w fun e w' => e = .returned (.bool true) ∧ Below w.heap.size w w' := by
  go_enter Tryd.func5, Tryd.ntmps5
  go_wp2_with (go_at_call 11; (with_reducible refine (Expand5 _).mono ?_); rintro e w1 ⟨rfl, H1⟩)
  go_ret
  exact ⟨by first | rfl | decide, H1.out⟩
end Go.Proofs.YtifpjidkfemkfaaDoor
