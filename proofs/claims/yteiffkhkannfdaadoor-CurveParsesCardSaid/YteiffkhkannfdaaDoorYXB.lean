/- Plain words: a text out of its bytes. -/
import Derived.Lib.Strings
import Derived.Test.YteiffkhkannfdaaDoorYWWords
import Derived.Test.YteiffkhkannfdaaDoorYWLast
import Derived.Test.YteiffkhkannfdaaDoorYWMore
set_option linter.unusedVariables false
set_option linter.unusedSimpArgs false
namespace Go.Proofs.YteiffkhkannfdaaDoor.Pure
open Go.RowKit Go.Proofs.YteiffkhkannfdaaDoorW.PrintWords Go.Proofs.YteiffkhkannfdaaDoorW.PrintLast Go.Proofs.YteiffkhkannfdaaDoorW.PrintMore
/-- A text out of its bytes. -/
def B (l : List UInt8) : ByteArray := ⟨l.toArray⟩
theorem B_of (s : ByteArray) : s = B s.data.toList := by simp [B]
theorem B_ex (s : ByteArray) : ∃ l, s = B l := ⟨_, B_of s⟩
theorem size_B (l : List UInt8) : (B l).size = l.length := by simp [B, ByteArray.size]
theorem data_B (l : List UInt8) : (B l).data.toList = l := by simp [B]
theorem toList_B (l : List UInt8) : (B l).toList = l := by rw [Lib.toList_data, data_B]
theorem B_inj {l m : List UInt8} (h : B l = B m) : l = m := by rw [← data_B l, h, data_B]
theorem append_B (l m : List UInt8) : B l ++ B m = B (l ++ m) := by
  apply ByteArray.ext
  simp [B]
theorem bt_B (l : List UInt8) (i : Nat) (h : i < l.length) : bt (B l) (i : Int) = (l[i].toNat : Int) := by
  have h' : ((i : Int)).toNat < (B l).size := by rw [size_B]; simpa using h
  unfold bt
  rw [dif_pos h']
  simp [B]
  rfl
theorem extract_B (l : List UInt8) (a b : Nat) : (B l).extract a b = B ((l.drop a).take (b - a)) := by
  apply ByteArray.ext
  simp [B]
theorem lit0 : (⟨#[]⟩ : ByteArray) = B [] := rfl
theorem w64 {x : Int} (h0 : -9223372036854775808 ≤ x) (h1 : x ≤ 9223372036854775807) : wrap64 x = x := by unfold wrap64; omega
theorem w64s {i n : Nat} (h : i < n) (hn : n ≤ 281474976710656) : wrap64 ((i : Int) + 1) = ((i + 1 : Nat) : Int) := by rw [w64 (by omega) (by omega)]; omega
theorem take1 (l : List UInt8) (i : Nat) (h : i < l.length) : (B l).extract ((i : Int)).toNat (((i + 1 : Nat) : Int)).toNat = B [l[i]] := by
  rw [show ((i : Int)).toNat = i from Int.toNat_natCast i, show (((i + 1 : Nat) : Int)).toNat = i + 1 from Int.toNat_natCast (i + 1), extract_B, show i + 1 - i = 1 by omega, List.drop_eq_getElem_cons h]
  rfl
theorem Ev.bindStep {α β : Type} {G : Nat → Option β} {g : Nat → Option α} {F : Nat → α → Option β} {a : α} {r : β} (h : Ev g a) (hs : ∀ k, G (k + 1) = (g k).bind (F k)) (hk : Ev (fun k => F k a) r) : Ev G r :=
  Ev.step (f := fun k => (g k).bind (F k)) hs (Ev.bind h hk)
theorem Ev.bindNow {α β : Type} {G : Nat → Option β} {g : Nat → Option α} {F : Nat → α → Option β} {a : α} {r : β} (h : Ev g a) (hs : ∀ k, G k = (g k).bind (F k)) (hk : Ev (fun k => F k a) r) : Ev G r :=
  Ev.congr (f := fun k => (g k).bind (F k)) hs (Ev.bind h hk)
theorem Ev.someStep {α β : Type} {G : Nat → Option β} {F : Nat → α → Option β} {a : α} {r : β} (hs : ∀ k, G (k + 1) = (some a).bind (F k)) (hk : Ev (fun k => F k a) r) : Ev G r :=
  Ev.step (f := fun k => F k a) (fun k => by rw [hs]; rfl) hk
theorem Ev.done {β : Type} {G : Nat → Option β} {r : β} (hs : ∀ k, G (k + 1) = some r) : Ev G r := Ev.step (f := fun _ => some r) hs (Ev.now r)
theorem Ev.done2 {β : Type} {G : Nat → Option β} {r : β} (hs : ∀ k, G (k + 1 + 1) = some r) : Ev G r := Ev.step (f := fun k => G (k + 1)) (fun _ => rfl) (Ev.done hs)
theorem Ev.goes {β : Type} {G : Nat → Option β} {g : Nat → Option β} {r : β} (h : Ev g r) (hs : ∀ k, G (k + 1) = g k) : Ev G r := Ev.step hs h
end Go.Proofs.YteiffkhkannfdaaDoor.Pure
