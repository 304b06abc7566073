/- The contracts of strings.Split and strconv.Atoi as the walk of curve.Parse wants them. -/
import Derived.Lib.SplitLaws
import Derived.Lib.AtoiErrMem
import Derived.Test.YteiffkhkannfdaaDoorYXWr
set_option linter.unusedVariables false
set_option linter.unusedSimpArgs false
namespace Go.Proofs.YteiffkhkannfdaaDoor
open Go.RowKit Go.Proofs.YteiffkhkannfdaaDoorW.PrintWords Go.Proofs.YteiffkhkannfdaaDoorW.PrintLast Go.Proofs.YteiffkhkannfdaaDoorW.PrintMore Go.Proofs.YteiffkhkannfdaaDoor.Pure
set_option linter.unusedVariables false
def splitW (s : ByteArray) : List ByteArray := Lib.splitB ⟨#[32]⟩ 0 (Lib.countB s ⟨#[32]⟩) s
theorem splitW_len (s : ByteArray) : (splitW s).length = Lib.countB s ⟨#[32]⟩ + 1 := Lib.splitB_all ⟨#[32]⟩ (by decide) 0 _ s rfl
theorem split_calls (a0 : ByteArray) (ws : List ByteArray) (w : World) (hw : splitW a0 = ws) (hs : a0.size ≤ 100000) (hc : ws.length ≤ 100001) (G : GW w) :
    Calls Tryd.prog 11 #[.string a0, .string ⟨#[32]⟩] w fun e w' => e = .returned (.slice (some ⟨w.heap.size, 0, none⟩) ws.length ws.length) ∧ Kd.R Kd.string 9 w' w.heap.size (fun _ => True) (.slice (some ⟨w.heap.size, 0, none⟩) ws.length ws.length) ws ∧ Below w.heap.size w w' := by
  subst hw
  obtain ⟨m, hm⟩ := G.maxlen
  refine (Tryd.strings_Split a0 ⟨#[32]⟩ m w (by omega) hm (by decide)).mono fun e w' ⟨h1, h2⟩ => ⟨?_, ?_, ?_⟩
  · rw [splitW_len]; exact h1
  · subst h2
    refine Kd.R_of_own ?_ (fun _ _ => trivial)
    have h := World.ownsRow_lit (base := w.heap.size) (e := 9) (size := 1) w ((splitW a0).map Value.string).toArray (splitW a0).length (Nat.le_refl _) (by simp [maxLen]; omega) (by simp)
    simp only [List.toList_toArray] at h
    exact h
  · subst h2
    exact below_alloc (Below.refl _ _) _
theorem atoi_ok (s : ByteArray) (hs : s.size ≤ 100000) (v : Int) (h : Lib.atoiAll s.data.toList = .ok v) (w : World) :
    Calls Tryd.prog 12 #[.string s] w fun e w' => e = .returned (.tuple #[.int .i64 v, .nilIface]) ∧ Below w.heap.size w w' :=
  (Tryd.strconv_Atoi_ok s (by omega) v h w).mono fun e w' ⟨h1, h2⟩ => ⟨h1, by
    rcases h2 with rfl | ⟨t, rfl⟩
    · exact Below.refl _ _
    · exact Lib.bytesWorld_below w _ t⟩
theorem atoi_bad (s : ByteArray) (hs : s.size ≤ 100000) (h : ∀ v, Lib.atoiAll s.data.toList ≠ .ok v) (w : World) (G : GW w) :
    Calls Tryd.prog 12 #[.string s] w fun e w' => ∃ (x : Int) (M : Nat), e = .returned (.tuple #[.int .i64 x, .iface 71 (.pointer (some ⟨M, 0, none⟩))]) ∧ Below w.heap.size w w' := by
  cases ha : Lib.atoiAll s.data.toList with
  | ok v => exact absurd ha (h v)
  | «syntax» =>
    obtain ⟨ev, hv, he⟩ := G.esyn
    exact (Tryd.strconv_Atoi_syntax s (by omega) ha ev w hv he).mono fun e w' ⟨M, h1, _, _, h2⟩ => ⟨0, M, h1, h2⟩
  | range =>
    obtain ⟨ev, hv, he⟩ := G.eran
    exact (Tryd.strconv_Atoi_range s (by omega) ha ev w hv he).mono fun e w' ⟨M, h1, _, _, h2⟩ => ⟨_, M, h1, h2⟩
end Go.Proofs.YteiffkhkannfdaaDoor
