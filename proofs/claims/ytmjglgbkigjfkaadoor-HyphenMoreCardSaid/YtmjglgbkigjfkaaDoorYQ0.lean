/- A cut with both bounds of a row of the call's own: how the walk runs it, and that it stays a row that may begin inside its block. -/
import Derived.Shelf.Strings.Builder1
import Derived.Shelf.Strings.Builder2
import Derived.Shelf.Strings.Search1
import Derived.Shelf.Strings.Search2
import Derived.Shelf.Strings.Search3
import Derived.Shelf.Strings.Count
import Derived.Shelf.LaysM
import Derived.Shelf.Strings.Shaped
import Derived.Shelf.Strings.Prefix
import Derived.Shelf.Strings.Split
import Derived.Shelf.Strings.Fields
import Derived.Shelf.Strings.Replace
import Derived.Shelf.Strings.SplitShaped
import Derived.Shelf.Unicode.Latin
import Derived.Shelf.Unicode.DecodeSlow
import Derived.Shelf.Unicode.Is16White
import Derived.Shelf.Unicode.IsSpaceAny
import Derived.Shelf.Unicode.Is16Any
import Derived.Shelf.Unicode.Is32Any
import Derived.Shelf.Unicode.ExclAny
import Derived.Test.YtmjglgbkigjfkaaDoorProg
import Derived.Lib.LaidTab
import Derived.Lib.SmallJoins
import Derived.WalkSmall
import Derived.Test.YtmjglgbkigjfkaaDoorYWMore
import Derived.Test.YtmjglgbkigjfkaaDoorYWQPut
set_option linter.unusedVariables false
set_option linter.unusedSimpArgs false
namespace Go.Proofs.YtmjglgbkigjfkaaDoorW.PrintWords
open Go.RowKit
section
variable {P : Program}
theorem cut_midx (t e : TypeId) (kl kh : IntKind) {i : TypeInfo} (ht : P.underlying t = some (.slice e)) (hi : P.info? e = some i) (size : Nat) (hsz : i.size = size) (A : Option Addr) (n c : Nat) (j m : Int) (h0 : 0 ≤ j) (h1 : j ≤ m) (hm : m ≤ n) (hc : n ≤ c) :
    ∀ W : World, (Instr.slice t (.slice A n c) (some (.int kl j)) (some (.int kh m)) none).run P W = .ok (.slice (if c = j.toNat then A else A.map (·.add (j.toNat * size))) (m.toNat - j.toNat) (c - j.toNat)) W := by
  intro W
  have hel : P.elem t = e := by simp [Program.elem, ht]
  have hu : P.underlying t = some (.slice (P.elem t)) := by rw [hel]; exact ht
  rw [run_slice_lh W t A n c hu kl kh j m h0 h1 (by omega), hel]
  simp [sizeOf, typeInfo, hi, hsz, sliced, Result.andThen]
end
theorem len_mid {α : Type} {xs : List α} {k m : Nat} (hk : k ≤ m) (hm : m ≤ xs.length) : ((xs.take m).drop k).length = m - k := by
  rw [List.length_drop, List.length_take, Nat.min_eq_left hm]
/-! the sizes of texts written out -/
theorem bs0 : (⟨#[]⟩ : ByteArray).size = 0 := rfl
theorem bs1 (a0 : UInt8) : (⟨#[a0]⟩ : ByteArray).size = 1 := rfl
theorem bs2 (a0 a1 : UInt8) : (⟨#[a0, a1]⟩ : ByteArray).size = 2 := rfl
theorem bs3 (a0 a1 a2 : UInt8) : (⟨#[a0, a1, a2]⟩ : ByteArray).size = 3 := rfl
theorem bs4 (a0 a1 a2 a3 : UInt8) : (⟨#[a0, a1, a2, a3]⟩ : ByteArray).size = 4 := rfl
theorem bs5 (a0 a1 a2 a3 a4 : UInt8) : (⟨#[a0, a1, a2, a3, a4]⟩ : ByteArray).size = 5 := rfl
theorem bs6 (a0 a1 a2 a3 a4 a5 : UInt8) : (⟨#[a0, a1, a2, a3, a4, a5]⟩ : ByteArray).size = 6 := rfl
theorem bs7 (a0 a1 a2 a3 a4 a5 a6 : UInt8) : (⟨#[a0, a1, a2, a3, a4, a5, a6]⟩ : ByteArray).size = 7 := rfl
theorem bs8 (a0 a1 a2 a3 a4 a5 a6 a7 : UInt8) : (⟨#[a0, a1, a2, a3, a4, a5, a6, a7]⟩ : ByteArray).size = 8 := rfl
theorem bs9 (a0 a1 a2 a3 a4 a5 a6 a7 a8 : UInt8) : (⟨#[a0, a1, a2, a3, a4, a5, a6, a7, a8]⟩ : ByteArray).size = 9 := rfl
theorem bs10 (a0 a1 a2 a3 a4 a5 a6 a7 a8 a9 : UInt8) : (⟨#[a0, a1, a2, a3, a4, a5, a6, a7, a8, a9]⟩ : ByteArray).size = 10 := rfl
theorem bs11 (a0 a1 a2 a3 a4 a5 a6 a7 a8 a9 a10 : UInt8) : (⟨#[a0, a1, a2, a3, a4, a5, a6, a7, a8, a9, a10]⟩ : ByteArray).size = 11 := rfl
theorem bs12 (a0 a1 a2 a3 a4 a5 a6 a7 a8 a9 a10 a11 : UInt8) : (⟨#[a0, a1, a2, a3, a4, a5, a6, a7, a8, a9, a10, a11]⟩ : ByteArray).size = 12 := rfl
theorem bs13 (a0 a1 a2 a3 a4 a5 a6 a7 a8 a9 a10 a11 a12 : UInt8) : (⟨#[a0, a1, a2, a3, a4, a5, a6, a7, a8, a9, a10, a11, a12]⟩ : ByteArray).size = 13 := rfl
theorem bs14 (a0 a1 a2 a3 a4 a5 a6 a7 a8 a9 a10 a11 a12 a13 : UInt8) : (⟨#[a0, a1, a2, a3, a4, a5, a6, a7, a8, a9, a10, a11, a12, a13]⟩ : ByteArray).size = 14 := rfl
theorem bs15 (a0 a1 a2 a3 a4 a5 a6 a7 a8 a9 a10 a11 a12 a13 a14 : UInt8) : (⟨#[a0, a1, a2, a3, a4, a5, a6, a7, a8, a9, a10, a11, a12, a13, a14]⟩ : ByteArray).size = 15 := rfl
theorem bs16 (a0 a1 a2 a3 a4 a5 a6 a7 a8 a9 a10 a11 a12 a13 a14 a15 : UInt8) : (⟨#[a0, a1, a2, a3, a4, a5, a6, a7, a8, a9, a10, a11, a12, a13, a14, a15]⟩ : ByteArray).size = 16 := rfl
theorem bs17 (a0 a1 a2 a3 a4 a5 a6 a7 a8 a9 a10 a11 a12 a13 a14 a15 a16 : UInt8) : (⟨#[a0, a1, a2, a3, a4, a5, a6, a7, a8, a9, a10, a11, a12, a13, a14, a15, a16]⟩ : ByteArray).size = 17 := rfl
theorem bs18 (a0 a1 a2 a3 a4 a5 a6 a7 a8 a9 a10 a11 a12 a13 a14 a15 a16 a17 : UInt8) : (⟨#[a0, a1, a2, a3, a4, a5, a6, a7, a8, a9, a10, a11, a12, a13, a14, a15, a16, a17]⟩ : ByteArray).size = 18 := rfl
theorem bs19 (a0 a1 a2 a3 a4 a5 a6 a7 a8 a9 a10 a11 a12 a13 a14 a15 a16 a17 a18 : UInt8) : (⟨#[a0, a1, a2, a3, a4, a5, a6, a7, a8, a9, a10, a11, a12, a13, a14, a15, a16, a17, a18]⟩ : ByteArray).size = 19 := rfl
theorem bs20 (a0 a1 a2 a3 a4 a5 a6 a7 a8 a9 a10 a11 a12 a13 a14 a15 a16 a17 a18 a19 : UInt8) : (⟨#[a0, a1, a2, a3, a4, a5, a6, a7, a8, a9, a10, a11, a12, a13, a14, a15, a16, a17, a18, a19]⟩ : ByteArray).size = 20 := rfl
theorem bs21 (a0 a1 a2 a3 a4 a5 a6 a7 a8 a9 a10 a11 a12 a13 a14 a15 a16 a17 a18 a19 a20 : UInt8) : (⟨#[a0, a1, a2, a3, a4, a5, a6, a7, a8, a9, a10, a11, a12, a13, a14, a15, a16, a17, a18, a19, a20]⟩ : ByteArray).size = 21 := rfl
theorem bs22 (a0 a1 a2 a3 a4 a5 a6 a7 a8 a9 a10 a11 a12 a13 a14 a15 a16 a17 a18 a19 a20 a21 : UInt8) : (⟨#[a0, a1, a2, a3, a4, a5, a6, a7, a8, a9, a10, a11, a12, a13, a14, a15, a16, a17, a18, a19, a20, a21]⟩ : ByteArray).size = 22 := rfl
theorem bs23 (a0 a1 a2 a3 a4 a5 a6 a7 a8 a9 a10 a11 a12 a13 a14 a15 a16 a17 a18 a19 a20 a21 a22 : UInt8) : (⟨#[a0, a1, a2, a3, a4, a5, a6, a7, a8, a9, a10, a11, a12, a13, a14, a15, a16, a17, a18, a19, a20, a21, a22]⟩ : ByteArray).size = 23 := rfl
theorem bs24 (a0 a1 a2 a3 a4 a5 a6 a7 a8 a9 a10 a11 a12 a13 a14 a15 a16 a17 a18 a19 a20 a21 a22 a23 : UInt8) : (⟨#[a0, a1, a2, a3, a4, a5, a6, a7, a8, a9, a10, a11, a12, a13, a14, a15, a16, a17, a18, a19, a20, a21, a22, a23]⟩ : ByteArray).size = 24 := rfl
theorem bs25 (a0 a1 a2 a3 a4 a5 a6 a7 a8 a9 a10 a11 a12 a13 a14 a15 a16 a17 a18 a19 a20 a21 a22 a23 a24 : UInt8) : (⟨#[a0, a1, a2, a3, a4, a5, a6, a7, a8, a9, a10, a11, a12, a13, a14, a15, a16, a17, a18, a19, a20, a21, a22, a23, a24]⟩ : ByteArray).size = 25 := rfl
theorem bs26 (a0 a1 a2 a3 a4 a5 a6 a7 a8 a9 a10 a11 a12 a13 a14 a15 a16 a17 a18 a19 a20 a21 a22 a23 a24 a25 : UInt8) : (⟨#[a0, a1, a2, a3, a4, a5, a6, a7, a8, a9, a10, a11, a12, a13, a14, a15, a16, a17, a18, a19, a20, a21, a22, a23, a24, a25]⟩ : ByteArray).size = 26 := rfl
theorem bs27 (a0 a1 a2 a3 a4 a5 a6 a7 a8 a9 a10 a11 a12 a13 a14 a15 a16 a17 a18 a19 a20 a21 a22 a23 a24 a25 a26 : UInt8) : (⟨#[a0, a1, a2, a3, a4, a5, a6, a7, a8, a9, a10, a11, a12, a13, a14, a15, a16, a17, a18, a19, a20, a21, a22, a23, a24, a25, a26]⟩ : ByteArray).size = 27 := rfl
theorem bs28 (a0 a1 a2 a3 a4 a5 a6 a7 a8 a9 a10 a11 a12 a13 a14 a15 a16 a17 a18 a19 a20 a21 a22 a23 a24 a25 a26 a27 : UInt8) : (⟨#[a0, a1, a2, a3, a4, a5, a6, a7, a8, a9, a10, a11, a12, a13, a14, a15, a16, a17, a18, a19, a20, a21, a22, a23, a24, a25, a26, a27]⟩ : ByteArray).size = 28 := rfl
theorem bs29 (a0 a1 a2 a3 a4 a5 a6 a7 a8 a9 a10 a11 a12 a13 a14 a15 a16 a17 a18 a19 a20 a21 a22 a23 a24 a25 a26 a27 a28 : UInt8) : (⟨#[a0, a1, a2, a3, a4, a5, a6, a7, a8, a9, a10, a11, a12, a13, a14, a15, a16, a17, a18, a19, a20, a21, a22, a23, a24, a25, a26, a27, a28]⟩ : ByteArray).size = 29 := rfl
theorem bs30 (a0 a1 a2 a3 a4 a5 a6 a7 a8 a9 a10 a11 a12 a13 a14 a15 a16 a17 a18 a19 a20 a21 a22 a23 a24 a25 a26 a27 a28 a29 : UInt8) : (⟨#[a0, a1, a2, a3, a4, a5, a6, a7, a8, a9, a10, a11, a12, a13, a14, a15, a16, a17, a18, a19, a20, a21, a22, a23, a24, a25, a26, a27, a28, a29]⟩ : ByteArray).size = 30 := rfl
theorem bs31 (a0 a1 a2 a3 a4 a5 a6 a7 a8 a9 a10 a11 a12 a13 a14 a15 a16 a17 a18 a19 a20 a21 a22 a23 a24 a25 a26 a27 a28 a29 a30 : UInt8) : (⟨#[a0, a1, a2, a3, a4, a5, a6, a7, a8, a9, a10, a11, a12, a13, a14, a15, a16, a17, a18, a19, a20, a21, a22, a23, a24, a25, a26, a27, a28, a29, a30]⟩ : ByteArray).size = 31 := rfl
theorem bs32 (a0 a1 a2 a3 a4 a5 a6 a7 a8 a9 a10 a11 a12 a13 a14 a15 a16 a17 a18 a19 a20 a21 a22 a23 a24 a25 a26 a27 a28 a29 a30 a31 : UInt8) : (⟨#[a0, a1, a2, a3, a4, a5, a6, a7, a8, a9, a10, a11, a12, a13, a14, a15, a16, a17, a18, a19, a20, a21, a22, a23, a24, a25, a26, a27, a28, a29, a30, a31]⟩ : ByteArray).size = 32 := rfl
namespace Kd
section
variable {α : Type} {d : Kd α} {e : Nat} {w : World} {base : Nat} {ok : Nat → Prop} {xs : List α}
theorem Q_mid {A : Option Addr} {k m n c : Nat} (h : d.Q e w base ok (.slice A n c) xs) (hk : k ≤ m) (hm : m ≤ xs.length) :
    d.Q e w base ok (.slice (if c = k then A else A.map (·.add (k * d.sz))) (m - k) (c - k)) ((xs.take m).drop k) :=
  Q_drop (Q_take h hm) (by rw [List.length_take]; omega)
end
end Kd
end Go.Proofs.YtmjglgbkigjfkaaDoorW.PrintWords
namespace Go.Proofs
def Tryd.lays144_ren : Go.Shelf.Ren := ⟨fun | 144 => 41 | 143 => 55 | 219 => 63 | 217 => 71 | 225 => 72 | 224 => 73 | 267 => 74 | 266 => 77 | 314 => 78 | n => n, fun | 9 => 9 | 4 => 4 | 3 => 3 | 5 => 5 | 46 => 28 | 146 => 122 | 51 => 96 | n => n, fun | 1 => 2 | n => n⟩
theorem Tryd.lays144 : Go.Proofs.Lays.n144 Tryd.prog Tryd.lays144_ren := {
  mixed := by kernel_rfl
  f143 := Tryd.func55.trans (congrArg some (by kernel_rfl))
  f144 := Tryd.func41.trans (congrArg some (by kernel_rfl))
  f217 := Tryd.func71.trans (congrArg some (by kernel_rfl))
  f219 := Tryd.func63.trans (congrArg some (by kernel_rfl))
  f224 := Tryd.func73.trans (congrArg some (by kernel_rfl))
  f225 := Tryd.func72.trans (congrArg some (by kernel_rfl))
  f266 := Tryd.func77.trans (congrArg some (by kernel_rfl))
  f267 := Tryd.func74.trans (congrArg some (by kernel_rfl))
  f314 := Tryd.func78.trans (congrArg some (by kernel_rfl))
  t3 := Tryd.underlying3
  a3 := Tryd.isAgg3
  z3 := Tryd.sizeOf3
  v3 := Tryd.zeroValue3
  t4 := Tryd.underlying4
  a4 := Tryd.isAgg4
  z4 := Tryd.sizeOf4
  v4 := Tryd.zeroValue4
  t5 := Tryd.underlying5
  a5 := Tryd.isAgg5
  z5 := Tryd.sizeOf5
  v5 := Tryd.zeroValue5
  t9 := Tryd.underlying9
  a9 := Tryd.isAgg9
  z9 := Tryd.sizeOf9
  v9 := Tryd.zeroValue9
  t46 := Tryd.underlying28
  a46 := Tryd.isAgg28
  z46 := Tryd.sizeOf28
  v46 := Tryd.zeroValue28
  t51 := Tryd.underlying96
  a51 := Tryd.isAgg96
  z51 := Tryd.sizeOf96
  v51 := Tryd.zeroValue96
  t146 := Tryd.underlying122
  a146 := Tryd.isAgg122
  z146 := Tryd.sizeOf122
  v146 := Tryd.zeroValue122
  g1 := by kernel_rfl }
open Go.RowKit Go.Lib in
/-- strings.Contains: "Contains reports whether substr is within s.": IT RETURNS 'Lib.contains s substr'; the world is as it was. (LAID: no walk: one application.) -/
theorem Tryd.strings_Contains (s sub : ByteArray) (m : Int) (w : World) (hs : s.size < 4294967281) (hm : w.cell? ⟨2, 0, none⟩ = some (.int .i64 m)) :
    Calls Tryd.prog 41 #[.string s, .string sub] w fun e w' => e = .returned (.bool (Lib.contains s.data.toList sub.data.toList)) ∧ w' = w := Any.strings_Contains Tryd.lays144 s sub m w hs hm
def Tryd.lays157_ren : Go.Shelf.Ren := ⟨fun | 157 => 36 | 229 => 51 | 199 => 52 | 261 => 62 | 311 => 69 | 312 => 70 | n => n, fun | 9 => 9 | 31 => 26 | 3 => 3 | 5 => 5 | 4 => 4 | 119 => 78 | 0 => 0 | 40 => 80 | 152 => 93 | 21 => 21 | 154 => 95 | 51 => 96 | 141 => 98 | 196 => 105 | 193 => 102 | 198 => 108 | 49 => 106 | 194 => 103 | 201 => 111 | 226 => 120 | 46 => 28 | 227 => 121 | n => n, fun | 0 => 0 | 6 => 1 | n => n⟩
theorem Tryd.lays157 : Go.Proofs.Lays.n157 Tryd.prog Tryd.lays157_ren := {
  mixed := by kernel_rfl
  f157 := Tryd.func36.trans (congrArg some (by kernel_rfl))
  f199 := Tryd.func52.trans (congrArg some (by kernel_rfl))
  f229 := Tryd.func51.trans (congrArg some (by kernel_rfl))
  f261 := Tryd.func62.trans (congrArg some (by kernel_rfl))
  f311 := Tryd.func69.trans (congrArg some (by kernel_rfl))
  f312 := Tryd.func70.trans (congrArg some (by kernel_rfl))
  t0 := Tryd.underlying0
  a0 := Tryd.isAgg0
  z0 := Tryd.sizeOf0
  v0 := Tryd.zeroValue0
  t3 := Tryd.underlying3
  a3 := Tryd.isAgg3
  z3 := Tryd.sizeOf3
  v3 := Tryd.zeroValue3
  t4 := Tryd.underlying4
  a4 := Tryd.isAgg4
  z4 := Tryd.sizeOf4
  v4 := Tryd.zeroValue4
  t5 := Tryd.underlying5
  a5 := Tryd.isAgg5
  z5 := Tryd.sizeOf5
  v5 := Tryd.zeroValue5
  t9 := Tryd.underlying9
  a9 := Tryd.isAgg9
  z9 := Tryd.sizeOf9
  v9 := Tryd.zeroValue9
  t21 := Tryd.underlying21
  a21 := Tryd.isAgg21
  z21 := Tryd.sizeOf21
  v21 := Tryd.zeroValue21
  t31 := Tryd.underlying26
  a31 := Tryd.isAgg26
  z31 := Tryd.sizeOf26
  v31 := Tryd.zeroValue26
  t40 := Tryd.underlying80
  a40 := Tryd.isAgg80
  z40 := Tryd.sizeOf80
  v40 := Tryd.zeroValue80
  t46 := Tryd.underlying28
  a46 := Tryd.isAgg28
  z46 := Tryd.sizeOf28
  v46 := Tryd.zeroValue28
  t49 := Tryd.underlying106
  a49 := Tryd.isAgg106
  z49 := Tryd.sizeOf106
  v49 := Tryd.zeroValue106
  t51 := Tryd.underlying96
  a51 := Tryd.isAgg96
  z51 := Tryd.sizeOf96
  v51 := Tryd.zeroValue96
  t119 := Tryd.underlying78
  a119 := Tryd.isAgg78
  z119 := Tryd.sizeOf78
  t141 := Tryd.underlying98
  a141 := Tryd.isAgg98
  z141 := Tryd.sizeOf98
  v141 := Tryd.zeroValue98
  t152 := Tryd.underlying93
  a152 := Tryd.isAgg93
  z152 := Tryd.sizeOf93
  v152 := Tryd.zeroValue93
  t154 := Tryd.underlying95
  a154 := Tryd.isAgg95
  z154 := Tryd.sizeOf95
  v154 := Tryd.zeroValue95
  t193 := Tryd.underlying102
  a193 := Tryd.isAgg102
  z193 := Tryd.sizeOf102
  v193 := Tryd.zeroValue102
  t194 := Tryd.underlying103
  a194 := Tryd.isAgg103
  z194 := Tryd.sizeOf103
  v194 := Tryd.zeroValue103
  t196 := Tryd.underlying105
  a196 := Tryd.isAgg105
  z196 := Tryd.sizeOf105
  v196 := Tryd.zeroValue105
  t198 := Tryd.underlying108
  a198 := Tryd.isAgg108
  z198 := Tryd.sizeOf108
  v198 := Tryd.zeroValue108
  t201 := Tryd.underlying111
  a201 := Tryd.isAgg111
  z201 := Tryd.sizeOf111
  v201 := Tryd.zeroValue111
  t226 := Tryd.underlying120
  a226 := Tryd.isAgg120
  z226 := Tryd.sizeOf120
  v226 := Tryd.zeroValue120
  t227 := Tryd.underlying121
  a227 := Tryd.isAgg121
  z227 := Tryd.sizeOf121
  v227 := Tryd.zeroValue121
  g0 := by kernel_rfl
  g6 := by kernel_rfl }
open Go.RowKit Go.Lib in
/-- strings.Fields, the table by 'Lib.TabIs' (as strings.TrimSpace's contract). 'hg': the table's number, by its name: at a dump 'by kernel_rfl'. (LAID: no walk: one application.) -/
theorem Tryd.strings_Fields (s : ByteArray) (w : World) (hs : s.size < 4294967281) (hascii : ∀ (j : Nat) b, s.data.toList[j]? = some b → b.toNat < 128) (htab : Lib.TabIs Tryd.prog w "strings.asciiSpace" .u8 Lib.asciiSpaceTab) :
    Calls Tryd.prog 36 #[.string s] w fun e w' =>
      e = .returned (.slice (some ⟨w.heap.size, 0, none⟩) (Lib.fields s.data.toList).length (Lib.fields s.data.toList).length) ∧ w' = w.alloc (.cells ((Lib.fields s.data.toList).map fun l => Value.string ⟨l.toArray⟩).toArray 9) := Any.strings_Fields Tryd.lays157 (by kernel_rfl) (by kernel_rfl) s w hs hascii htab
def Tryd.lays155_ren : Go.Shelf.Ren := ⟨fun | 155 => 33 | 154 => 48 | 138 => 57 | 165 => 58 | 143 => 55 | 166 => 59 | 197 => 60 | 169 => 61 | 195 => 64 | 218 => 65 | 240 => 66 | 241 => 67 | 219 => 63 | 260 => 68 | 276 => 75 | 277 => 76 | 217 => 71 | 225 => 72 | 224 => 73 | 267 => 74 | 266 => 77 | 314 => 78 | n => n, fun | 9 => 9 | 3 => 3 | 4 => 4 | 72 => 84 | 0 => 0 | 76 => 88 | 105 => 90 | 21 => 21 | 5 => 5 | 70 => 82 | 20 => 20 | 37 => 37 | 75 => 87 | 127 => 101 | 164 => 114 | 46 => 28 | 119 => 78 | 139 => 119 | 138 => 118 | 146 => 122 | 51 => 96 | 80 => 92 | n => n, fun | 1 => 2 | 3 => 3 | 4 => 4 | n => n⟩
theorem Tryd.lays155 : Go.Proofs.Lays.n155 Tryd.prog Tryd.lays155_ren := {
  mixed := by kernel_rfl
  f138 := Tryd.func57.trans (congrArg some (by kernel_rfl))
  f143 := Tryd.func55.trans (congrArg some (by kernel_rfl))
  f154 := Tryd.func48.trans (congrArg some (by kernel_rfl))
  f155 := Tryd.func33.trans (congrArg some (by kernel_rfl))
  f165 := Tryd.func58.trans (congrArg some (by kernel_rfl))
  f166 := Tryd.func59.trans (congrArg some (by kernel_rfl))
  f169 := Tryd.func61.trans (congrArg some (by kernel_rfl))
  f195 := Tryd.func64.trans (congrArg some (by kernel_rfl))
  f197 := Tryd.func60.trans (congrArg some (by kernel_rfl))
  f217 := Tryd.func71.trans (congrArg some (by kernel_rfl))
  f218 := Tryd.func65.trans (congrArg some (by kernel_rfl))
  f219 := Tryd.func63.trans (congrArg some (by kernel_rfl))
  f224 := Tryd.func73.trans (congrArg some (by kernel_rfl))
  f225 := Tryd.func72.trans (congrArg some (by kernel_rfl))
  f240 := Tryd.func66.trans (congrArg some (by kernel_rfl))
  f241 := Tryd.func67.trans (congrArg some (by kernel_rfl))
  f260 := Tryd.func68.trans (congrArg some (by kernel_rfl))
  f266 := Tryd.func77.trans (congrArg some (by kernel_rfl))
  f267 := Tryd.func74.trans (congrArg some (by kernel_rfl))
  f276 := Tryd.func75.trans (congrArg some (by kernel_rfl))
  f277 := Tryd.func76.trans (congrArg some (by kernel_rfl))
  f314 := Tryd.func78.trans (congrArg some (by kernel_rfl))
  t0 := Tryd.underlying0
  a0 := Tryd.isAgg0
  z0 := Tryd.sizeOf0
  v0 := Tryd.zeroValue0
  t3 := Tryd.underlying3
  a3 := Tryd.isAgg3
  z3 := Tryd.sizeOf3
  v3 := Tryd.zeroValue3
  t4 := Tryd.underlying4
  a4 := Tryd.isAgg4
  z4 := Tryd.sizeOf4
  v4 := Tryd.zeroValue4
  t5 := Tryd.underlying5
  a5 := Tryd.isAgg5
  z5 := Tryd.sizeOf5
  v5 := Tryd.zeroValue5
  t9 := Tryd.underlying9
  a9 := Tryd.isAgg9
  z9 := Tryd.sizeOf9
  v9 := Tryd.zeroValue9
  t20 := Tryd.underlying20
  a20 := Tryd.isAgg20
  z20 := Tryd.sizeOf20
  v20 := Tryd.zeroValue20
  t21 := Tryd.underlying21
  a21 := Tryd.isAgg21
  z21 := Tryd.sizeOf21
  v21 := Tryd.zeroValue21
  t37 := Tryd.underlying37
  a37 := Tryd.isAgg37
  z37 := Tryd.sizeOf37
  v37 := Tryd.zeroValue37
  t46 := Tryd.underlying28
  a46 := Tryd.isAgg28
  z46 := Tryd.sizeOf28
  v46 := Tryd.zeroValue28
  t51 := Tryd.underlying96
  a51 := Tryd.isAgg96
  z51 := Tryd.sizeOf96
  v51 := Tryd.zeroValue96
  t70 := Tryd.underlying82
  a70 := Tryd.isAgg82
  z70 := Tryd.sizeOf82
  v70 := Tryd.zeroValue82
  t72 := Tryd.underlying84
  a72 := Tryd.isAgg84
  z72 := Tryd.sizeOf84
  v72 := Tryd.zeroValue84
  t75 := Tryd.underlying87
  a75 := Tryd.isAgg87
  z75 := Tryd.sizeOf87
  v75 := Tryd.zeroValue87
  t76 := Tryd.underlying88
  a76 := Tryd.isAgg88
  z76 := Tryd.sizeOf88
  v76 := Tryd.zeroValue88
  t105 := Tryd.underlying90
  a105 := Tryd.isAgg90
  z105 := Tryd.sizeOf90
  v105 := Tryd.zeroValue90
  t119 := Tryd.underlying78
  a119 := Tryd.isAgg78
  z119 := Tryd.sizeOf78
  t127 := Tryd.underlying101
  a127 := Tryd.isAgg101
  z127 := Tryd.sizeOf101
  v127 := Tryd.zeroValue101
  t138 := Tryd.underlying118
  a138 := Tryd.isAgg118
  z138 := Tryd.sizeOf118
  v138 := Tryd.zeroValue118
  t139 := Tryd.underlying119
  a139 := Tryd.isAgg119
  z139 := Tryd.sizeOf119
  v139 := Tryd.zeroValue119
  t146 := Tryd.underlying122
  a146 := Tryd.isAgg122
  z146 := Tryd.sizeOf122
  v146 := Tryd.zeroValue122
  t164 := Tryd.underlying114
  a164 := Tryd.isAgg114
  z164 := Tryd.sizeOf114
  v164 := Tryd.zeroValue114
  g1 := by kernel_rfl
  g3 := by kernel_rfl
  g4 := by kernel_rfl }
theorem Tryd.Builder_Extra_155 : Builder.Extra Tryd.prog Tryd.lays155_ren := {
  sizeBuilder := by kernel_rfl
  liesBuilder := by kernel_rfl
  t5 := Tryd.underlying5
  a5 := Tryd.isAgg5
  z5 := Tryd.sizeOf5
  v5 := Tryd.zeroValue5
  infoByte := by kernel_rfl
  cellsByte := by kernel_rfl
  sizeByte := by kernel_rfl
  neB5 := by decide }
open Go.RowKit Go.Lib in
/-- strings.ReplaceAll: "ReplaceAll returns a copy of the string s with all non-overlapping instances of old replaced by new.": AT AN old THAT IS NOT EMPTY: 'Lib.replaceAll s old new'. (LAID: no walk: one application.) -/
theorem Tryd.strings_ReplaceAll (s old new : ByteArray) (m : Int) (w : World) (hs : s.size < 4294967281) (hm : w.cell? ⟨2, 0, none⟩ = some (.int .i64 m)) (h1 : 1 ≤ old.size) (hlen : s.size + Lib.countB s old * new.size ≤ 140737488355328) :
    Calls Tryd.prog 33 #[.string s, .string old, .string new] w fun e w' =>
      e = .returned (.string ⟨(Lib.replaceAll s.data.toList old.data.toList new.data.toList).toArray⟩) ∧ Below w.heap.size w w' := Any.strings_ReplaceAll Tryd.lays155 Tryd.Builder_Extra_155 s old new m w hs hm h1 hlen
end Go.Proofs
namespace Go.Proofs.YtmjglgbkigjfkaaDoor
open Go.RowKit Go.Proofs.YtmjglgbkigjfkaaDoorW.PrintWords
theorem asciiAt : Tryd.prog.globalNamed "strings.asciiSpace" = some 0 := by kernel_rfl
structure GW (w : World) : Prop where
  size : 8 ≤ w.heap.size
  maxlen : ∃ m, w.cell? ⟨2, 0, none⟩ = some (.int .i64 m)
  ascii : Lib.TabIs Tryd.prog w "strings.asciiSpace" .u8 Lib.asciiSpaceTab
namespace GW
theorem below {w W : World} (g : GW w) (h : Below w.heap.size w W) : GW W where
  size := Nat.le_trans g.size h.size
  maxlen := by
    obtain ⟨m, hm⟩ := g.maxlen
    exact ⟨m, (h.cell (p := ⟨2, 0, none⟩) (by have := g.size; show 2 < w.heap.size; omega)).trans hm⟩
  ascii := var?_below h asciiAt (by have := g.size; omega) g.ascii
theorem aside {w W : World} (g : GW w) (h : Aside0 (Below w.heap.size w W)) : GW W := g.below h.out
theorem asideD {w W : World} (g : GW w) (h : Aside0 (Drawn0 w W)) : GW W := g.below h.out.below
theorem drewN {w : World} (g : GW w) (n : Nat) : GW (w.drewN n) := g.below (Drawn0.below ⟨⟨n, rfl⟩⟩)
theorem drew {w : World} (g : GW w) : GW w.drew := g.below (below_drew (Below.refl _ _))
theorem alloc {w : World} (g : GW w) (o : Obj) : GW (w.alloc o) := g.below (below_alloc (Below.refl _ _) o)
end GW
end Go.Proofs.YtmjglgbkigjfkaaDoor
namespace Go.Proofs.YtmjglgbkigjfkaaDoor
open Go.RowKit Go.Proofs.YtmjglgbkigjfkaaDoorW.PrintWords Go.Proofs.YtmjglgbkigjfkaaDoorW.PrintLast
set_option linter.unusedVariables false
def stdText : ByteArray := ⟨#[49, 98, 97, 32, 49, 98, 101, 32, 49, 98, 105, 32, 49, 98, 111, 32, 49, 98, 117, 32, 49, 99, 97, 32, 49, 99, 101, 32, 49, 99, 105, 32, 49, 99, 111, 32, 49, 99, 117, 32, 49, 100, 97, 32, 49, 100, 101, 32, 49, 100, 105, 32, 49, 100, 111, 32, 49, 100, 117, 32, 49, 102, 97, 32, 49, 102, 101, 32, 49, 102, 105, 32, 49, 102, 111, 32, 49, 102, 117, 32, 49, 103, 97, 32, 49, 103, 101, 32, 49, 103, 105, 32, 49, 103, 111, 32, 49, 103, 117, 32, 49, 108, 97, 32, 49, 108, 101, 32, 49, 108, 105, 32, 49, 108, 111, 32, 49, 108, 117, 32, 49, 109, 97, 32, 49, 109, 101, 32, 49, 109, 105, 32, 49, 109, 111, 32, 49, 109, 117, 32, 49, 110, 97, 32, 49, 110, 101, 32, 49, 110, 105, 32, 49, 110, 111, 32, 49, 110, 117, 32, 49, 112, 97, 32, 49, 112, 101, 32, 49, 112, 105, 32, 49, 112, 111, 32, 49, 112, 117, 32, 49, 114, 97, 32, 49, 114, 101, 32, 49, 114, 105, 32, 49, 114, 111, 32, 49, 114, 117, 32, 49, 115, 97, 32, 49, 115, 101, 32, 49, 115, 105, 32, 49, 115, 111, 32, 49, 115, 117, 32, 49, 116, 97, 32, 49, 116, 101, 32, 49, 116, 105, 32, 49, 116, 111, 32, 49, 116, 117, 32, 49, 118, 97, 32, 49, 118, 101, 32, 49, 118, 105, 32, 49, 118, 111, 32, 110, 49, 100, 32, 110, 49, 116, 32, 114, 49, 116, 32, 108, 49, 116, 32, 115, 49, 116, 50, 32, 50, 101, 100, 46, 32, 50, 101, 115, 46, 32, 46, 117, 110, 49, 32, 46, 114, 101, 49, 32, 116, 50, 105, 111, 32, 52, 108, 101, 46, 32, 50, 103, 104, 116, 32, 49, 116, 105, 111, 110]⟩
def stdList : List ByteArray := (Lib.fields stdText.data.toList).map fun l => ⟨l.toArray⟩
theorem own_strings {w : World} {base : Nat} (hb : base ≤ w.heap.size) (xs : List ByteArray) (hl : xs.length ≤ 9223372036854775807) :
    Kd.R Kd.string 9 (w.alloc (.cells (xs.map Value.string).toArray 9)) base (fun _ => True) (.slice (some ⟨w.heap.size, 0, none⟩) xs.length xs.length) xs := by
  refine ⟨fun _ _ => trivial, (xs.map Value.string), ?_, Kd.reps_scalar xs⟩
  have h2 := World.ownsRow_lit (base := base) (e := 9) (size := 1) w (xs.map Value.string).toArray xs.length hb (by simpa [maxLen] using hl) (by simp)
  have h3 : Kd.string.sz = 1 := rfl
  rw [h3]
  simpa using h2
set_option maxRecDepth 100000 in
theorem standard_calls (w : World) (G_ : GW w) :
    Calls Tryd.prog 16 #[] w fun e w' => ∃ v0_ : Value, e = .returned v0_ ∧ Kd.R Kd.string 9 w' w.heap.size (fun _ => True) v0_ stdList ∧ Below w.heap.size w w' := by
  have hasc : ∀ (j : Nat) (b : UInt8), stdText.data.toList[j]? = some b → b.toNat < 128 := by
    have h : (stdText.data.toList.all fun b => decide (b.toNat < 128)) = true := by decide +kernel
    intro j b hj
    exact of_decide_eq_true (List.all_eq_true.1 h b (List.mem_of_getElem? hj))
  have hsz : stdText.size < 4294967281 := by decide +kernel
  have hlen : (Lib.fields stdText.data.toList).length ≤ 9223372036854775807 := by decide +kernel
  go_enter Tryd.func16, Tryd.ntmps16
  go_wp2_with fail
  refine (Tryd.strings_Fields stdText w hsz hasc G_.ascii).mono ?_
  rintro e w' ⟨rfl, rfl⟩
  go_wp2
  go_ret
  refine ⟨_, rfl, ?_, (Below.refl _ _).alloc (Nat.le_refl _) _⟩
  have h := own_strings (w := w) (Nat.le_refl _) stdList (by rw [stdList, List.length_map]; exact hlen)
  have e1 : stdList.map Value.string = (Lib.fields stdText.data.toList).map fun l => Value.string ⟨l.toArray⟩ := by
    rw [stdList, List.map_map]; rfl
  have e2 : stdList.length = (Lib.fields stdText.data.toList).length := by rw [stdList, List.length_map]
  rw [e1, e2] at h
  exact h
def lowB (c : UInt8) : UInt8 := if 65 ≤ c.toNat ∧ c.toNat ≤ 90 then c + 32 else c
def smallB (c : UInt8) : Bool := decide (97 ≤ c.toNat ∧ c.toNat ≤ 122)
def lowF (a0 : ByteArray) : ByteArray × Bool :=
  if (a0.data.toList.all fun c => smallB (lowB c)) = true then (⟨(a0.data.toList.map lowB).toArray⟩, decide (1 ≤ a0.size ∧ a0.size ≤ 60)) else (⟨#[]⟩, false)
/-- A block of bytes that the call itself has laid. -/
def BytesAt (w : World) (B : Nat) (l : List UInt8) : Prop := B < w.heap.size ∧ ∀ j, j < l.length → w.cell? ⟨B, j, none⟩ = some (.int .u8 ((l.getD j 0).toNat : Int)) ∧ w.frozen? ⟨B, j, none⟩ = false
theorem BytesAt.set {w : World} {B : Nat} {l : List UInt8} (h : BytesAt w B l) (k : Nat) (hk : k < l.length) (c : UInt8) : BytesAt (w.setCell ⟨B, k, none⟩ (.int .u8 (c.toNat : Int))) B (l.set k c) := by
  refine ⟨by simpa using h.1, fun j hj => ⟨?_, by rw [World.frozen?_setCell]; exact (h.2 j (by simpa using hj)).2⟩⟩
  have hj' : j < l.length := by simpa using hj
  by_cases e : j = k
  · subst e
    rw [World.cell?_setCell_same (h := (h.2 j hj').1)]
    simp [List.getD_eq_getElem?_getD, hj']
  · rw [World.cell?_setCell_other (h := by intro h2; injection h2 with _ h3; exact e h3.symm), (h.2 j hj').1]
    simp [List.getD_eq_getElem?_getD, Ne.symm e]
theorem bytes_made (w : World) (s : ByteArray) : BytesAt (Lib.bytesWorld w 5 s) w.heap.size s.data.toList := by
  refine ⟨by rw [Lib.bytesWorld_size]; omega, fun j hj => ?_⟩
  have hj' : j < s.size := by simpa using hj
  refine ⟨Lib.bytesWorld_cell w 5 s j hj', ?_⟩
  unfold World.frozen?
  simp only [Lib.bytesWorld_at_new]
  have : j < (Lib.bytesCells w 5 s).size := by simp [Lib.bytesCells]; omega
  simp; omega
theorem bytes_below (w : World) (s : ByteArray) : Below w.heap.size w (Lib.bytesWorld w 5 s) :=
  ⟨rfl, rfl, rfl, by rw [Lib.bytesWorld_size]; omega, fun i hi => Lib.bytesWorld_at_old w 5 s i hi⟩
section
variable {P : Program} {ops : Array Oper} {rest : List Oper} {o : Oper} {a : Act} {Q : Exit → Act → World → Prop}
theorem bytes_event {W : World} (hgd : o.guard = none) (src dst : TypeId) (x : Operand) (ho : o.op = .convert src dst x) (s : ByteArray) (hx : a.eval x = .string s)
    (hs : P.underlying src = some .string) (hd : P.underlying dst = some (.slice 5)) (he : P.underlying 5 = some (.int .u8))
    (h : ∀ (cap : Nat) (w1 : World), BytesAt w1 W.heap.size s.data.toList → Below W.heap.size W w1 → wpList P ops Q rest (a.put o.dst (.slice (some ⟨W.heap.size, 0, none⟩) s.size cap)) w1) : wpList P ops Q (o :: rest) a W := by
  refine Kd.event_run hgd (v := .slice (some ⟨W.heap.size, 0, none⟩) s.size (grownCap W s.size 0 5)) (w1 := Lib.bytesWorld W 5 s) ?_ (h _ _ (bytes_made W s) (bytes_below W s))
  simp [execOp, ho, hx, Lib.run_convert_string_bytes W src dst 5 s hs hd he]
end
def LowAt (w wr : World) (l : List UInt8) (k : Nat) : Prop :=
  k ≤ l.length ∧ BytesAt wr w.heap.size ((l.take k).map lowB ++ l.drop k) ∧ ((l.take k).all fun c => smallB (lowB c)) = true ∧ Below w.heap.size w wr
theorem low_of {c : UInt8} {x : Int} (hx : x = (c.toNat : Int)) (h1 : 65 ≤ x) (h2 : x ≤ 90) : ((lowB c).toNat : Int) = x + 32 := by
  unfold lowB
  rw [if_pos (by omega), UInt8.toNat_add]
  have : (32 : UInt8).toNat = 32 := rfl
  omega
theorem low_same {c : UInt8} {x : Int} (hx : x = (c.toNat : Int)) (h1 : ¬ (65 ≤ x ∧ x ≤ 90)) : lowB c = c := by
  unfold lowB
  rw [if_neg (by omega)]
theorem low_head (l : List UInt8) (k : Nat) (hk : k < l.length) : ((l.take k).map lowB ++ l.drop k).getD k 0 = l[k] := by
  have e3 : ((l.take k).map lowB).length = k := by simp [Nat.min_eq_left (Nat.le_of_lt hk)]
  rw [List.getD_eq_getElem?_getD, List.getElem?_append_right (by omega), e3, Nat.sub_self, List.drop_eq_getElem_cons hk]
  rfl
theorem low_end (w wr : World) (a0 : ByteArray) (h : LowAt w wr a0.data.toList a0.size) :
    (∀ i, i < a0.size → wr.cell? ⟨w.heap.size, 0 + i, none⟩ = some (.int .u8 ((((a0.data.toList.map lowB).map fun c => (c.toNat : Int))).getD i 0))) ∧
    strOfNums ((a0.data.toList.map lowB).map fun c => (c.toNat : Int)) = ⟨(a0.data.toList.map lowB).toArray⟩ ∧
    lowF a0 = (⟨(a0.data.toList.map lowB).toArray⟩, decide (1 ≤ a0.size ∧ a0.size ≤ 60)) := by
  have hl : a0.data.toList.length = a0.size := by simp
  obtain ⟨_, hB, ha, _⟩ := h
  rw [List.take_of_length_le (by omega)] at ha
  have e : (a0.data.toList.take a0.size).map lowB ++ a0.data.toList.drop a0.size = a0.data.toList.map lowB := by
    rw [List.take_of_length_le (by omega), List.drop_of_length_le (by omega), List.append_nil]
  rw [e] at hB
  refine ⟨fun i hi => ?_, ?_, ?_⟩
  · have := (hB.2 i (by simp; exact hi)).1
    rw [Nat.zero_add, this]
    rw [List.getD_eq_getElem?_getD, List.getD_eq_getElem?_getD, List.getElem?_map (l := a0.data.toList.map lowB)]
    cases (a0.data.toList.map lowB)[i]? <;> rfl
  · unfold strOfNums
    congr 1
    simp [Function.comp_def]
  · unfold lowF
    rw [if_pos ha]
theorem low_bad (a0 : ByteArray) (k : Nat) (hk : k < a0.data.toList.length) (h : smallB (lowB a0.data.toList[k]) = false) : lowF a0 = (⟨#[]⟩, false) := by
  unfold lowF
  rw [if_neg]
  intro h2
  have := List.all_eq_true.1 h2 _ (List.getElem_mem hk)
  rw [h] at this
  exact absurd this (by decide)
theorem low_step (w wr : World) (l : List UInt8) (k : Nat) (hk : k < l.length) (h : LowAt w wr l k) (hs : smallB (lowB l[k]) = true) :
    (lowB l[k] = l[k] → LowAt w wr l (k + 1)) ∧ LowAt w (wr.setCell ⟨w.heap.size, k, none⟩ (.int .u8 ((lowB l[k]).toNat : Int))) l (k + 1) := by
  obtain ⟨h1, h2, h3, h4⟩ := h
  have hall : ((l.take (k + 1)).all fun c => smallB (lowB c)) = true := by
    rw [List.take_succ_eq_append_getElem hk, List.all_append, h3]; simp [hs]
  have e1 : l.drop k = l[k] :: l.drop (k + 1) := List.drop_eq_getElem_cons hk
  have e2 : l.take (k + 1) = l.take k ++ [l[k]] := List.take_succ_eq_append_getElem hk
  have e3 : ((l.take k).map lowB).length = k := by simp [Nat.min_eq_left (Nat.le_of_lt hk)]
  have hset : ((l.take k).map lowB ++ l.drop k).set k (lowB l[k]) = (l.take (k + 1)).map lowB ++ l.drop (k + 1) := by
    rw [e1, e2, List.set_append_right _ _ (by omega), e3, Nat.sub_self, List.set_cons_zero, List.map_append]
    simp only [List.map_cons, List.map_nil, List.append_assoc, List.cons_append, List.nil_append]
  refine ⟨fun he => ⟨hk, ?_, hall, h4⟩, ⟨hk, ?_, hall, h4.setCell (Nat.le_refl _) _⟩⟩
  · have : (l.take (k + 1)).map lowB ++ l.drop (k + 1) = (l.take k).map lowB ++ l.drop k := by
      rw [e1, e2, List.map_append]
      simp only [List.map_cons, List.map_nil, List.append_assoc, List.cons_append, List.nil_append, he]
    rw [this]; exact h2
  · rw [← hset]
    exact h2.set k (by simp; omega) _
set_option maxRecDepth 100000 in
theorem low_calls (a0 : ByteArray) (w : World) (hs : a0.size ≤ 140737488351232) :
    Calls Tryd.prog 31 #[.string a0] w fun e w' => e = .returned (.tuple #[.string (lowF a0).1, .bool (lowF a0).2]) ∧ Below w.heap.size w w' := by
  have hl : a0.data.toList.length = a0.size := by simp
  go_enter Tryd.func31, Tryd.ntmps31
  go_wp2_with ((with_reducible refine gate_dst (N := 8) rfl ?_); refine bytes_event rfl 9 37 (.tmp 7) rfl a0 rfl Tryd.underlying9 Tryd.underlying37 Tryd.underlying5 ?_; intro cap w1 hB0 hb0)
  have HB0 := Aside0.mk hB0
  have Hb0 := Aside0.mk hb0
  clear hB0 hb0
  go_loopw [11] (fun i wr => ∃ k : Nat, i = .int .i64 k ∧ Aside0 (LowAt w wr a0.data.toList k)) (fun i _ => a0.size - (intOf i).toNat)
  case atStart => exact ⟨0, rfl, ⟨by omega, by simpa using HB0.out, by simp, Hb0.out⟩⟩
  case round =>
    obtain ⟨k, rfl, HK⟩ := hrel
    have hk1 : k ≤ a0.size := by have := HK.out.1; omega
    by_cases hlt : k < a0.size
    · have hkl : k < a0.data.toList.length := by omega
      have hlen : k < ((a0.data.toList.take k).map lowB ++ a0.data.toList.drop k).length := by simp; omega
      have hc := (HK.out.2.1.2 k hlen).1
      have hf := (HK.out.2.1.2 k hlen).2
      have hg : ((a0.data.toList.take k).map lowB ++ a0.data.toList.drop k).getD k 0 = a0.data.toList[k] := low_head _ k hkl
      rw [hg] at hc
      have hstep := low_step w wr a0.data.toList k hkl HK.out
      have hbad := low_bad a0 k hkl
      have hB := HK.out.2.1
      obtain ⟨c, hcc⟩ : ∃ c : UInt8, c = a0.data.toList[k] := ⟨_, rfl⟩
      rw [← hcc] at hc hstep hbad
      have hx0 : (0 : Int) ≤ (c.toNat : Int) := by omega
      have hx1 : (c.toNat : Int) ≤ 255 := by have := c.toNat_lt; omega
      obtain ⟨x, hx⟩ : ∃ x : Int, x = (c.toNat : Int) := ⟨_, rfl⟩
      rw [← hx] at hc hx0 hx1
      have Hstep := Aside0.mk hstep
      have Hbad := Aside0.mk hbad
      have HBw := Aside0.mk HK.out.2.2.2
      have Hx := Aside0.mk hx
      have Hkl := Aside0.mk hkl
      clear hstep hbad hcc hx hg hlen hB hkl hl
      by_cases h1 : 65 ≤ x ∧ x ≤ 90
      · have hq : LowAt w (wr.setCell ⟨w.heap.size, k, none⟩ (.int .u8 (x + 97 - 65))) a0.data.toList (k + 1) := by
          have e := low_of Hx.out h1.1 h1.2
          have h := (Hstep.out (by unfold smallB; exact decide_eq_true (by omega))).2
          rw [e] at h
          rw [show x + 97 - 65 = x + 32 by omega]
          exact h
        have Hq := Aside0.mk hq
        clear hq Hstep Hbad Hx HBw HK
        obtain ⟨h1, h2⟩ := h1
        have f1 : decide (97 ≤ x + 97 - 65) = true := decide_eq_true (by omega)
        have f2 : decide (x + 97 - 65 ≤ 122) = true := decide_eq_true (by omega)
        go_wp2
        exact ⟨⟨k + 1, by go_num, Hq⟩, by simp [intOf]; omega⟩
      · have e := low_same Hx.out h1
        by_cases h3 : 97 ≤ x ∧ x ≤ 122
        · have hq := (Hstep.out (by rw [e]; unfold smallB; exact decide_eq_true (by have := Hx.out; omega))).1 e
          have Hq := Aside0.mk hq
          clear hq e Hstep Hbad Hx HBw HK
          obtain ⟨h3, h4⟩ := h3
          have f1 : decide (65 ≤ x) = true := decide_eq_true (by omega)
          have f2 : decide (x ≤ 90) = false := decide_eq_false (by omega)
          have f3 : decide (97 ≤ x) = true := decide_eq_true (by omega)
          have f4 : decide (x ≤ 122) = true := decide_eq_true (by omega)
          go_wp2
          exact ⟨⟨k + 1, by go_num, Hq⟩, by simp [intOf]; omega⟩
        · have hr := Hbad.out (by rw [e]; unfold smallB; exact decide_eq_false (by have := Hx.out; omega))
          have Hr := Aside0.mk hr
          clear hr e Hstep Hbad Hx HK
          have fin : ∀ (e : Ending) (W' : World), e = .returned (.tuple #[.string ⟨#[]⟩, .bool false]) → Below w.heap.size w W' → e = .returned (.tuple #[.string (lowF a0).1, .bool (lowF a0).2]) ∧ Below w.heap.size w W' := by
            intro e W' he hb
            rw [Hr.out]
            exact ⟨he, hb⟩
          have Fin := Aside0.mk fin
          clear fin
          by_cases h5 : 65 ≤ x
          · by_cases h6 : x ≤ 90
            · exact absurd ⟨h5, h6⟩ h1
            · have f1 : decide (65 ≤ x) = true := decide_eq_true h5
              have f2 : decide (x ≤ 90) = false := decide_eq_false h6
              by_cases h7 : 97 ≤ x
              · have f3 : decide (97 ≤ x) = true := decide_eq_true h7
                have f4 : decide (x ≤ 122) = false := decide_eq_false (by omega)
                clear h1 h3
                go_wp2
                go_ret2
                exact Fin.out _ _ rfl HBw.out
              · have f3 : decide (97 ≤ x) = false := decide_eq_false h7
                clear h1 h3
                go_wp2
                go_ret2
                exact Fin.out _ _ rfl HBw.out
          · have f1 : decide (65 ≤ x) = false := decide_eq_false h5
            have f3 : decide (97 ≤ x) = false := decide_eq_false (by omega)
            clear h1 h3
            go_wp2
            go_ret2
            exact Fin.out _ _ rfl HBw.out
    · obtain rfl : k = a0.size := by omega
      have hx := HK.out
      have hxs := low_end w wr a0 hx
      have hcv := run_convert_bytes_arg (P := Tryd.prog) wr 37 5 Tryd.underlying37 Tryd.underlying5 w.heap.size 0 a0.size cap ((a0.data.toList.map lowB).map fun c => (c.toNat : Int)) (by simp) hxs.1 9 Tryd.underlying9
      rw [hxs.2.1] at hcv
      have Hb := Aside0.mk hx.2.2.2
      have Hr := Aside0.mk hxs.2.2
      clear hx hxs HK
      by_cases h1 : 1 ≤ a0.size
      · by_cases h2 : a0.size ≤ 60
        · have f1 : decide (1 ≤ (a0.size : Int)) = true := decide_eq_true (by omega)
          have f2 : decide ((a0.size : Int) ≤ 60) = true := decide_eq_true (by omega)
          go_wp2
          go_ret2
          refine ⟨?_, Hb.out⟩
          rw [Hr.out]
          simp [h1, h2]
        · have f1 : decide (1 ≤ (a0.size : Int)) = true := decide_eq_true (by omega)
          have f2 : decide ((a0.size : Int) ≤ 60) = false := decide_eq_false (by omega)
          go_wp2
          go_ret2
          refine ⟨?_, Hb.out⟩
          rw [Hr.out]
          simp [h1, h2]
      · have f1 : decide (1 ≤ (a0.size : Int)) = false := decide_eq_false (by omega)
        go_wp2
        go_ret2
        refine ⟨?_, Hb.out⟩
        rw [Hr.out]
        simp [h1]
end Go.Proofs.YtmjglgbkigjfkaaDoor
