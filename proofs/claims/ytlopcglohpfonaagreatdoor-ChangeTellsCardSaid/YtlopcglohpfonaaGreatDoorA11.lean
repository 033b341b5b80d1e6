/- A part of the proof: functions of the program and what they compute. -/
import Derived.Test.YtlopcglohpfonaaGreatDoorA6
import Derived.Test.YtlopcglohpfonaaGreatDoorA4
import Derived.Test.YtlopcglohpfonaaGreatDoorA5
import Derived.Test.YtlopcglohpfonaaGreatDoorA9
import Derived.Test.YtlopcglohpfonaaGreatDoorA10
import Derived.Shelf.Strings.Trim
import Derived.Shelf.Small.Utf8
import Derived.Shelf.Small.Strs
import Derived.Shelf.Small.Wraps
import Derived.Shelf.Strconv.Itoa0
import Derived.Shelf.Strconv.Itoa1
import Derived.Shelf.LaysM
import Derived.Shelf.Strconv.Itoa2
import Derived.Shelf.Strconv.Itoa3
import Derived.Shelf.Strconv.Itoa4
import Derived.Shelf.Strconv.ParseIntEmpty
import Derived.Shelf.Strconv.Clone
import Derived.Shelf.Strconv.SyntaxError
import Derived.Shelf.LaysC
import Derived.Shelf.Strconv.ToError
import Derived.Shelf.Strconv.Lower
import Derived.Shelf.Strconv.ParseUint10
import Derived.Shelf.Strconv.ParseUint10Empty
import Derived.Shelf.Strconv.ParseUint10Any
import Derived.Shelf.Strconv.ParseInt10
import Derived.Shelf.Strconv.RangeError
import Derived.Shelf.Strconv.ToErrorRange
import Derived.Shelf.Strconv.ParseUintEmpty
import Derived.Shelf.Strconv.ParseUint10b64
import Derived.Shelf.Strconv.ParseUint10b32
import Derived.Shelf.Strconv.ParseUint10b16
import Derived.Shelf.Strconv.ParseUint10b8
import Derived.Shelf.Strconv.ParseUint10At
import Derived.Shelf.Strconv.ParseInt10At64
import Derived.Shelf.Strconv.ParseInt10At32
import Derived.Shelf.Strconv.ParseInt10At16
import Derived.Shelf.Strconv.ParseInt10At8
import Derived.Shelf.Strconv.ParseInt10All
import Derived.Shelf.Strconv.ParseIntPublic10
import Derived.Shelf.Strconv.ErrVarParseInt
import Derived.Shelf.Strings.Search1
import Derived.Shelf.Strings.Search2
import Derived.Shelf.Strings.Search3
import Derived.Shelf.Strings.Cut
import Derived.Shelf.Strings.Count
import Derived.Shelf.Strings.Shaped
import Derived.Shelf.Strings.Prefix
import Derived.Shelf.Strings.Split
import Derived.Shelf.Strings.SplitShaped
import Derived.Shelf.Strings.Runes
import Derived.Shelf.Strings.AsciiSet
import Derived.Shelf.Unicode.DecodeSlow
import Derived.Shelf.Slices.Equal
import Derived.Ground.Names2Prog
import Derived.Shelf.Slices.Clone
import Derived.Ground.SlgnProg
import Derived.Shelf.SlicesE.Clone
import Derived.Test.YtlopcglohpfonaaGreatDoorProg
section
namespace Go.Proofs
open Go.Shelf
def Tryz.lays231_ren : Go.Shelf.Ren := ⟨fun | 231 => 112 | n => n, fun | 9 => 9 | 5 => 5 | 3 => 3 | 4 => 4 | n => n, fun | n => n⟩
theorem Tryz.lays231 : Go.Proofs.Lays.n231 Tryz.prog Tryz.lays231_ren := {
 mixed := by kernel_rfl
 f231 := Tryz.func112.trans (congrArg some (by kernel_rfl))
 t3 := Tryz.underlying3
 a3 := Tryz.isAgg3
 z3 := Tryz.sizeOf3
 v3 := Tryz.zeroValue3
 t4 := Tryz.underlying4
 a4 := Tryz.isAgg4
 z4 := Tryz.sizeOf4
 v4 := Tryz.zeroValue4
 t5 := Tryz.underlying5
 a5 := Tryz.isAgg5
 z5 := Tryz.sizeOf5
 v5 := Tryz.zeroValue5
 t9 := Tryz.underlying9
 a9 := Tryz.isAgg9
 z9 := Tryz.sizeOf9
 v9 := Tryz.zeroValue9 }
open Go.RowKit in
theorem Tryz.strings_trimLeftByte (s : ByteArray) (c : UInt8) (w : World) :
  Calls Tryz.prog 112 #[.string s, .int .u8 c.toNat] w fun e w' => e = .returned (.string ⟨(Lib.trimLeftB s.data.toList c).toArray⟩) ∧ w' = w := Any.strings_trimLeftByte Tryz.lays231 s c w
def Tryz.lays232_ren : Go.Shelf.Ren := ⟨fun | 232 => 113 | n => n, fun | 9 => 9 | 5 => 5 | 3 => 3 | 4 => 4 | n => n, fun | n => n⟩
theorem Tryz.lays232 : Go.Proofs.Lays.n232 Tryz.prog Tryz.lays232_ren := {
 mixed := by kernel_rfl
 f232 := Tryz.func113.trans (congrArg some (by kernel_rfl))
 t3 := Tryz.underlying3
 a3 := Tryz.isAgg3
 z3 := Tryz.sizeOf3
 v3 := Tryz.zeroValue3
 t4 := Tryz.underlying4
 a4 := Tryz.isAgg4
 z4 := Tryz.sizeOf4
 v4 := Tryz.zeroValue4
 t5 := Tryz.underlying5
 a5 := Tryz.isAgg5
 z5 := Tryz.sizeOf5
 v5 := Tryz.zeroValue5
 t9 := Tryz.underlying9
 a9 := Tryz.isAgg9
 z9 := Tryz.sizeOf9
 v9 := Tryz.zeroValue9 }
open Go.RowKit in
theorem Tryz.strings_trimRightByte (s : ByteArray) (c : UInt8) (w : World) (hs : s.size ≤ 9223372036854775807) :
  Calls Tryz.prog 113 #[.string s, .int .u8 c.toNat] w fun e w' => e = .returned (.string ⟨(Lib.trimRightB s.data.toList c).toArray⟩) ∧ w' = w := Any.strings_trimRightByte Tryz.lays232 s c w hs
def Tryz.lays137_ren : Go.Shelf.Ren := ⟨fun | 137 => 156 | 217 => 145 | 266 => 158 | n => n, fun | 9 => 9 | 5 => 5 | 3 => 3 | n => n, fun | n => n⟩
theorem Tryz.lays137 : Go.Proofs.Lays.n137 Tryz.prog Tryz.lays137_ren := {
 mixed := by kernel_rfl
 f137 := Tryz.func156.trans (congrArg some (by kernel_rfl))
 f217 := Tryz.func145.trans (congrArg some (by kernel_rfl))
 f266 := Tryz.func158.trans (congrArg some (by kernel_rfl))
 t3 := Tryz.underlying3
 a3 := Tryz.isAgg3
 z3 := Tryz.sizeOf3
 v3 := Tryz.zeroValue3
 t5 := Tryz.underlying5
 a5 := Tryz.isAgg5
 z5 := Tryz.sizeOf5
 v5 := Tryz.zeroValue5
 t9 := Tryz.underlying9
 a9 := Tryz.isAgg9
 z9 := Tryz.sizeOf9
 v9 := Tryz.zeroValue9 }
open Go.RowKit in
theorem Tryz.strings_IndexByte (s : ByteArray) (c : Int) (w : World) :
  Calls Tryz.prog 156 #[.string s, .int .u8 c] w fun e w' => e = .returned (.int .i64 (Lib.indexByte s.data.toList c.toNat.toUInt8)) ∧ w' = w := Any.strings_IndexByte Tryz.lays137 s c w
def Tryz.lays215_ren : Go.Shelf.Ren := ⟨fun | 215 => 73 | n => n, fun | 3 => 3 | 4 => 4 | n => n, fun | n => n⟩
theorem Tryz.lays215 : Go.Proofs.Lays.n215 Tryz.prog Tryz.lays215_ren := {
 mixed := by kernel_rfl
 f215 := Tryz.func73.trans (congrArg some (by kernel_rfl))
 t3 := Tryz.underlying3
 a3 := Tryz.isAgg3
 z3 := Tryz.sizeOf3
 v3 := Tryz.zeroValue3
 t4 := Tryz.underlying4
 a4 := Tryz.isAgg4
 z4 := Tryz.sizeOf4
 v4 := Tryz.zeroValue4 }
open Go.RowKit in
theorem Tryz.cmp_isNaN_int (x : Int) (w : World) :
  Calls Tryz.prog 73 #[.int .i64 x] w fun e w' => e = .returned (.bool false) ∧ w' = w := Any.cmp_isNaN_int Tryz.lays215 x w
def Tryz.lays122_ren : Go.Shelf.Ren := ⟨fun | 122 => 53 | 215 => 73 | n => n, fun | 3 => 3 | 4 => 4 | n => n, fun | n => n⟩
theorem Tryz.lays122 : Go.Proofs.Lays.n122 Tryz.prog Tryz.lays122_ren := {
 mixed := by kernel_rfl
 f122 := Tryz.func53.trans (congrArg some (by kernel_rfl))
 f215 := Tryz.func73.trans (congrArg some (by kernel_rfl))
 t3 := Tryz.underlying3
 a3 := Tryz.isAgg3
 z3 := Tryz.sizeOf3
 v3 := Tryz.zeroValue3
 t4 := Tryz.underlying4
 a4 := Tryz.isAgg4
 z4 := Tryz.sizeOf4
 v4 := Tryz.zeroValue4 }
open Go.RowKit in
theorem Tryz.cmp_Compare_int (x y : Int) (w : World) :
  Calls Tryz.prog 53 #[.int .i64 x, .int .i64 y] w fun e w' => e = .returned (.int .i64 (Lib.compareInt x y)) ∧ w' = w := Any.cmp_Compare_int Tryz.lays122 x y w
def Tryz.laysM171_ren : Go.Shelf.Ren := ⟨fun | 171 => 71 | 243 => 92 | 246 => 91 | 283 => 108 | 284 => 109 | 285 => 110 | 286 => 111 | 129 => 132 | 317 => 131 | 318 => 133 | 319 => 134 | 320 => 135 | 337 => 149 | 338 => 150 | n => n, fun | 3 => 3 | 9 => 9 | 2 => 2 | 4 => 4 | 171 => 143 | 0 => 0 | 53 => 137 | 37 => 36 | 5 => 5 | 173 => 146 | 212 => 168 | 51 => 169 | 20 => 20 | 213 => 170 | 46 => 100 | 232 => 192 | 233 => 193 | n => n, fun | 17 => 2 | 18 => 6 | 19 => 7 | n => n⟩
theorem Tryz.laysM171 : Go.Proofs.LaysM.n171 Tryz.prog Tryz.laysM171_ren := {
 mixed := by kernel_rfl
 f129 := Tryz.func132.trans (congrArg some (by kernel_rfl))
 f171 := Tryz.func71.trans (congrArg some (by kernel_rfl))
 f243 := Tryz.func92.trans (congrArg some (by kernel_rfl))
 f246 := Tryz.func91.trans (congrArg some (by kernel_rfl))
 f283 := Tryz.func108.trans (congrArg some (by kernel_rfl))
 f284 := Tryz.func109.trans (congrArg some (by kernel_rfl))
 f285 := Tryz.func110.trans (congrArg some (by kernel_rfl))
 f286 := Tryz.func111.trans (congrArg some (by kernel_rfl))
 f317 := Tryz.func131.trans (congrArg some (by kernel_rfl))
 f318 := Tryz.func133.trans (congrArg some (by kernel_rfl))
 f319 := Tryz.func134.trans (congrArg some (by kernel_rfl))
 f320 := Tryz.func135.trans (congrArg some (by kernel_rfl))
 f337 := Tryz.func149.trans (congrArg some (by kernel_rfl))
 f338 := Tryz.func150.trans (congrArg some (by kernel_rfl))
 t0 := Tryz.underlying0
 a0 := Tryz.isAgg0
 z0 := Tryz.sizeOf0
 v0 := Tryz.zeroValue0
 t2 := Tryz.underlying2
 a2 := Tryz.isAgg2
 z2 := Tryz.sizeOf2
 v2 := Tryz.zeroValue2
 t3 := Tryz.underlying3
 a3 := Tryz.isAgg3
 z3 := Tryz.sizeOf3
 v3 := Tryz.zeroValue3
 t4 := Tryz.underlying4
 a4 := Tryz.isAgg4
 z4 := Tryz.sizeOf4
 v4 := Tryz.zeroValue4
 t5 := Tryz.underlying5
 a5 := Tryz.isAgg5
 z5 := Tryz.sizeOf5
 v5 := Tryz.zeroValue5
 t9 := Tryz.underlying9
 a9 := Tryz.isAgg9
 z9 := Tryz.sizeOf9
 v9 := Tryz.zeroValue9
 t20 := Tryz.underlying20
 a20 := Tryz.isAgg20
 z20 := Tryz.sizeOf20
 v20 := Tryz.zeroValue20
 t37 := Tryz.underlying36
 a37 := Tryz.isAgg36
 z37 := Tryz.sizeOf36
 v37 := Tryz.zeroValue36
 t46 := Tryz.underlying100
 a46 := Tryz.isAgg100
 z46 := Tryz.sizeOf100
 v46 := Tryz.zeroValue100
 t51 := Tryz.underlying169
 a51 := Tryz.isAgg169
 z51 := Tryz.sizeOf169
 v51 := Tryz.zeroValue169
 t53 := Tryz.underlying137
 a53 := Tryz.isAgg137
 z53 := Tryz.sizeOf137
 v53 := Tryz.zeroValue137
 t171 := Tryz.underlying143
 a171 := Tryz.isAgg143
 z171 := Tryz.sizeOf143
 v171 := Tryz.zeroValue143
 t173 := Tryz.underlying146
 a173 := Tryz.isAgg146
 z173 := Tryz.sizeOf146
 v173 := Tryz.zeroValue146
 t212 := Tryz.underlying168
 a212 := Tryz.isAgg168
 z212 := Tryz.sizeOf168
 v212 := Tryz.zeroValue168
 t213 := Tryz.underlying170
 a213 := Tryz.isAgg170
 z213 := Tryz.sizeOf170
 t232 := Tryz.underlying192
 a232 := Tryz.isAgg192
 z232 := Tryz.sizeOf192
 v232 := Tryz.zeroValue192
 t233 := Tryz.underlying193
 a233 := Tryz.isAgg193
 z233 := Tryz.sizeOf193
 v233 := Tryz.zeroValue193
 g17 := by kernel_rfl
 g18 := by kernel_rfl
 g19 := by kernel_rfl
 i0 := by kernel_rfl
 i2 := by kernel_rfl
 i3 := by kernel_rfl
 i4 := by kernel_rfl
 i5 := by kernel_rfl
 i9 := by kernel_rfl
 i20 := by kernel_rfl
 i37 := by kernel_rfl
 i46 := by kernel_rfl
 i51 := by kernel_rfl
 i53 := by kernel_rfl
 i171 := by kernel_rfl
 i173 := by kernel_rfl
 i212 := by kernel_rfl
 i232 := by kernel_rfl
 i233 := by kernel_rfl
 m17 := by kernel_rfl
 m18 := by kernel_rfl
 m19 := by kernel_rfl }
open Go.RowKit Go.Sort Go.Lib in
theorem Tryz.strconv_Itoa (n : Int) (h0 : -9223372036854775808 ≤ n) (h1 : n ≤ 9223372036854775807) (w : World) (htab : Lib.TabIs Tryz.prog w "internal/strconv.uint64pow10" .u64 Lib.pow10Tab) :
  Calls Tryz.prog 71 #[.int .i64 n] w fun e w' => e = .returned (.string ⟨(Lib.itoa n).toArray⟩) ∧ ∃ k os, w' = grow (w.drewN k) os := Any.strconv_Itoa Tryz.laysM171 n h0 h1 w htab
def Tryz.laysM173_ren : Go.Shelf.Ren := ⟨fun | 173 => 70 | 246 => 91 | 283 => 108 | 284 => 109 | 285 => 110 | 286 => 111 | 129 => 132 | 317 => 131 | 318 => 133 | 319 => 134 | 320 => 135 | 337 => 149 | 338 => 150 | n => n, fun | 2 => 2 | 3 => 3 | 9 => 9 | 4 => 4 | 171 => 143 | 0 => 0 | 53 => 137 | 37 => 36 | 5 => 5 | 173 => 146 | 212 => 168 | 51 => 169 | 20 => 20 | 213 => 170 | 46 => 100 | 232 => 192 | 233 => 193 | n => n, fun | 17 => 2 | 18 => 6 | 19 => 7 | n => n⟩
theorem Tryz.laysM173 : Go.Proofs.LaysM.n173 Tryz.prog Tryz.laysM173_ren := {
 mixed := by kernel_rfl
 f129 := Tryz.func132.trans (congrArg some (by kernel_rfl))
 f173 := Tryz.func70.trans (congrArg some (by kernel_rfl))
 f246 := Tryz.func91.trans (congrArg some (by kernel_rfl))
 f283 := Tryz.func108.trans (congrArg some (by kernel_rfl))
 f284 := Tryz.func109.trans (congrArg some (by kernel_rfl))
 f285 := Tryz.func110.trans (congrArg some (by kernel_rfl))
 f286 := Tryz.func111.trans (congrArg some (by kernel_rfl))
 f317 := Tryz.func131.trans (congrArg some (by kernel_rfl))
 f318 := Tryz.func133.trans (congrArg some (by kernel_rfl))
 f319 := Tryz.func134.trans (congrArg some (by kernel_rfl))
 f320 := Tryz.func135.trans (congrArg some (by kernel_rfl))
 f337 := Tryz.func149.trans (congrArg some (by kernel_rfl))
 f338 := Tryz.func150.trans (congrArg some (by kernel_rfl))
 t0 := Tryz.underlying0
 a0 := Tryz.isAgg0
 z0 := Tryz.sizeOf0
 v0 := Tryz.zeroValue0
 t2 := Tryz.underlying2
 a2 := Tryz.isAgg2
 z2 := Tryz.sizeOf2
 v2 := Tryz.zeroValue2
 t3 := Tryz.underlying3
 a3 := Tryz.isAgg3
 z3 := Tryz.sizeOf3
 v3 := Tryz.zeroValue3
 t4 := Tryz.underlying4
 a4 := Tryz.isAgg4
 z4 := Tryz.sizeOf4
 v4 := Tryz.zeroValue4
 t5 := Tryz.underlying5
 a5 := Tryz.isAgg5
 z5 := Tryz.sizeOf5
 v5 := Tryz.zeroValue5
 t9 := Tryz.underlying9
 a9 := Tryz.isAgg9
 z9 := Tryz.sizeOf9
 v9 := Tryz.zeroValue9
 t20 := Tryz.underlying20
 a20 := Tryz.isAgg20
 z20 := Tryz.sizeOf20
 v20 := Tryz.zeroValue20
 t37 := Tryz.underlying36
 a37 := Tryz.isAgg36
 z37 := Tryz.sizeOf36
 v37 := Tryz.zeroValue36
 t46 := Tryz.underlying100
 a46 := Tryz.isAgg100
 z46 := Tryz.sizeOf100
 v46 := Tryz.zeroValue100
 t51 := Tryz.underlying169
 a51 := Tryz.isAgg169
 z51 := Tryz.sizeOf169
 v51 := Tryz.zeroValue169
 t53 := Tryz.underlying137
 a53 := Tryz.isAgg137
 z53 := Tryz.sizeOf137
 v53 := Tryz.zeroValue137
 t171 := Tryz.underlying143
 a171 := Tryz.isAgg143
 z171 := Tryz.sizeOf143
 v171 := Tryz.zeroValue143
 t173 := Tryz.underlying146
 a173 := Tryz.isAgg146
 z173 := Tryz.sizeOf146
 v173 := Tryz.zeroValue146
 t212 := Tryz.underlying168
 a212 := Tryz.isAgg168
 z212 := Tryz.sizeOf168
 v212 := Tryz.zeroValue168
 t213 := Tryz.underlying170
 a213 := Tryz.isAgg170
 z213 := Tryz.sizeOf170
 t232 := Tryz.underlying192
 a232 := Tryz.isAgg192
 z232 := Tryz.sizeOf192
 v232 := Tryz.zeroValue192
 t233 := Tryz.underlying193
 a233 := Tryz.isAgg193
 z233 := Tryz.sizeOf193
 v233 := Tryz.zeroValue193
 g17 := by kernel_rfl
 g18 := by kernel_rfl
 g19 := by kernel_rfl
 i0 := by kernel_rfl
 i2 := by kernel_rfl
 i3 := by kernel_rfl
 i4 := by kernel_rfl
 i5 := by kernel_rfl
 i9 := by kernel_rfl
 i20 := by kernel_rfl
 i37 := by kernel_rfl
 i46 := by kernel_rfl
 i51 := by kernel_rfl
 i53 := by kernel_rfl
 i171 := by kernel_rfl
 i173 := by kernel_rfl
 i212 := by kernel_rfl
 i232 := by kernel_rfl
 i233 := by kernel_rfl
 m17 := by kernel_rfl
 m18 := by kernel_rfl
 m19 := by kernel_rfl }
open Go.RowKit Go.Sort Go.Lib in
theorem Tryz.strconv_FormatInt_10 (n : Int) (h0 : -9223372036854775808 ≤ n) (h1 : n ≤ 9223372036854775807) (w : World) (htab : Lib.TabIs Tryz.prog w "internal/strconv.uint64pow10" .u64 Lib.pow10Tab) :
  Calls Tryz.prog 70 #[.int .i64 n, .int .i64 10] w fun e w' => e = .returned (.string ⟨(Lib.itoa n).toArray⟩) ∧ ∃ k os, w' = grow (w.drewN k) os := Any.strconv_FormatInt_10 Tryz.laysM173 n h0 h1 w htab
def Tryz.laysC174_ren : Go.Shelf.Ren := ⟨fun | 174 => 66 | 247 => 88 | 245 => 89 | 287 => 103 | 279 => 104 | 280 => 105 | 281 => 106 | 282 => 107 | 321 => 127 | 322 => 128 | 316 => 129 | 171 => 71 | 205 => 130 | 243 => 92 | 246 => 91 | 283 => 108 | 284 => 109 | 285 => 110 | 286 => 111 | 129 => 132 | 317 => 131 | 318 => 133 | 319 => 134 | 320 => 135 | 337 => 149 | 338 => 150 | n => n, fun | 9 => 9 | 3 => 3 | 2 => 2 | 75 => 104 | 85 => 105 | 4 => 4 | 167 => 136 | 5 => 5 | 53 => 137 | 175 => 138 | 46 => 100 | 168 => 140 | 37 => 36 | 0 => 0 | 210 => 164 | 21 => 21 | 127 => 177 | 145 => 180 | 143 => 178 | 171 => 143 | 173 => 146 | 212 => 168 | 51 => 169 | 20 => 20 | 213 => 170 | 232 => 192 | 233 => 193 | 80 => 195 | n => n, fun | 15 => 0 | 16 => 1 | 17 => 2 | 18 => 6 | 19 => 7 | n => n⟩
theorem Tryz.laysC174 : Go.Proofs.LaysC.n174 Tryz.prog Tryz.laysC174_ren := {
 mixed := by kernel_rfl
 f129 := Tryz.func132.trans (congrArg some (by kernel_rfl))
 f171 := Tryz.func71.trans (congrArg some (by kernel_rfl))
 f174 := Tryz.func66.trans (congrArg some (by kernel_rfl))
 f205 := Tryz.func130.trans (congrArg some (by kernel_rfl))
 f243 := Tryz.func92.trans (congrArg some (by kernel_rfl))
 f245 := Tryz.func89.trans (congrArg some (by kernel_rfl))
 f246 := Tryz.func91.trans (congrArg some (by kernel_rfl))
 f247 := Tryz.func88.trans (congrArg some (by kernel_rfl))
 f279 := Tryz.func104.trans (congrArg some (by kernel_rfl))
 f280 := Tryz.func105.trans (congrArg some (by kernel_rfl))
 f281 := Tryz.func106.trans (congrArg some (by kernel_rfl))
 f282 := Tryz.func107.trans (congrArg some (by kernel_rfl))
 f283 := Tryz.func108.trans (congrArg some (by kernel_rfl))
 f284 := Tryz.func109.trans (congrArg some (by kernel_rfl))
 f285 := Tryz.func110.trans (congrArg some (by kernel_rfl))
 f286 := Tryz.func111.trans (congrArg some (by kernel_rfl))
 f287 := Tryz.func103.trans (congrArg some (by kernel_rfl))
 f316 := Tryz.func129.trans (congrArg some (by kernel_rfl))
 f317 := Tryz.func131.trans (congrArg some (by kernel_rfl))
 f318 := Tryz.func133.trans (congrArg some (by kernel_rfl))
 f319 := Tryz.func134.trans (congrArg some (by kernel_rfl))
 f320 := Tryz.func135.trans (congrArg some (by kernel_rfl))
 f321 := Tryz.func127.trans (congrArg some (by kernel_rfl))
 f322 := Tryz.func128.trans (congrArg some (by kernel_rfl))
 f337 := Tryz.func149.trans (congrArg some (by kernel_rfl))
 f338 := Tryz.func150.trans (congrArg some (by kernel_rfl))
 t0 := Tryz.underlying0
 a0 := Tryz.isAgg0
 z0 := Tryz.sizeOf0
 v0 := Tryz.zeroValue0
 t2 := Tryz.underlying2
 a2 := Tryz.isAgg2
 z2 := Tryz.sizeOf2
 v2 := Tryz.zeroValue2
 t3 := Tryz.underlying3
 a3 := Tryz.isAgg3
 z3 := Tryz.sizeOf3
 v3 := Tryz.zeroValue3
 t4 := Tryz.underlying4
 a4 := Tryz.isAgg4
 z4 := Tryz.sizeOf4
 v4 := Tryz.zeroValue4
 t5 := Tryz.underlying5
 a5 := Tryz.isAgg5
 z5 := Tryz.sizeOf5
 v5 := Tryz.zeroValue5
 t9 := Tryz.underlying9
 a9 := Tryz.isAgg9
 z9 := Tryz.sizeOf9
 v9 := Tryz.zeroValue9
 t20 := Tryz.underlying20
 a20 := Tryz.isAgg20
 z20 := Tryz.sizeOf20
 v20 := Tryz.zeroValue20
 t21 := Tryz.underlying21
 a21 := Tryz.isAgg21
 z21 := Tryz.sizeOf21
 v21 := Tryz.zeroValue21
 t37 := Tryz.underlying36
 a37 := Tryz.isAgg36
 z37 := Tryz.sizeOf36
 v37 := Tryz.zeroValue36
 t46 := Tryz.underlying100
 a46 := Tryz.isAgg100
 z46 := Tryz.sizeOf100
 v46 := Tryz.zeroValue100
 t51 := Tryz.underlying169
 a51 := Tryz.isAgg169
 z51 := Tryz.sizeOf169
 v51 := Tryz.zeroValue169
 t53 := Tryz.underlying137
 a53 := Tryz.isAgg137
 z53 := Tryz.sizeOf137
 v53 := Tryz.zeroValue137
 t75 := Tryz.underlying104
 a75 := Tryz.isAgg104
 z75 := Tryz.sizeOf104
 v75 := Tryz.zeroValue104
 t85 := Tryz.underlying105
 a85 := Tryz.isAgg105
 z85 := Tryz.sizeOf105
 v85 := Tryz.zeroValue105
 t127 := Tryz.underlying177
 a127 := Tryz.isAgg177
 z127 := Tryz.sizeOf177
 v127 := Tryz.zeroValue177
 t143 := Tryz.underlying178
 a143 := Tryz.isAgg178
 z143 := Tryz.sizeOf178
 v143 := Tryz.zeroValue178
 t145 := Tryz.underlying180
 a145 := Tryz.isAgg180
 z145 := Tryz.sizeOf180
 v145 := Tryz.zeroValue180
 t167 := Tryz.underlying136
 a167 := Tryz.isAgg136
 z167 := Tryz.sizeOf136
 v167 := Tryz.zeroValue136
 t168 := Tryz.underlying140
 a168 := Tryz.isAgg140
 z168 := Tryz.sizeOf140
 v168 := Tryz.zeroValue140
 t171 := Tryz.underlying143
 a171 := Tryz.isAgg143
 z171 := Tryz.sizeOf143
 v171 := Tryz.zeroValue143
 t173 := Tryz.underlying146
 a173 := Tryz.isAgg146
 z173 := Tryz.sizeOf146
 v173 := Tryz.zeroValue146
 t175 := Tryz.underlying138
 a175 := Tryz.isAgg138
 z175 := Tryz.sizeOf138
 v175 := Tryz.zeroValue138
 t210 := Tryz.underlying164
 a210 := Tryz.isAgg164
 z210 := Tryz.sizeOf164
 v210 := Tryz.zeroValue164
 t212 := Tryz.underlying168
 a212 := Tryz.isAgg168
 z212 := Tryz.sizeOf168
 v212 := Tryz.zeroValue168
 t213 := Tryz.underlying170
 a213 := Tryz.isAgg170
 z213 := Tryz.sizeOf170
 t232 := Tryz.underlying192
 a232 := Tryz.isAgg192
 z232 := Tryz.sizeOf192
 v232 := Tryz.zeroValue192
 t233 := Tryz.underlying193
 a233 := Tryz.isAgg193
 z233 := Tryz.sizeOf193
 v233 := Tryz.zeroValue193
 g15 := by kernel_rfl
 g16 := by kernel_rfl
 g17 := by kernel_rfl
 g18 := by kernel_rfl
 g19 := by kernel_rfl
 t80 := Tryz.underlying195
 a80 := Tryz.isAgg195
 z80 := Tryz.sizeOf195
 v80 := Tryz.zeroValue195
 i0 := by kernel_rfl
 i2 := by kernel_rfl
 i3 := by kernel_rfl
 i4 := by kernel_rfl
 i5 := by kernel_rfl
 i9 := by kernel_rfl
 i20 := by kernel_rfl
 i21 := by kernel_rfl
 i37 := by kernel_rfl
 i46 := by kernel_rfl
 i51 := by kernel_rfl
 i53 := by kernel_rfl
 i75 := by kernel_rfl
 i80 := by kernel_rfl
 i85 := by kernel_rfl
 i127 := by kernel_rfl
 i143 := by kernel_rfl
 i145 := by kernel_rfl
 i167 := by kernel_rfl
 i168 := by kernel_rfl
 i171 := by kernel_rfl
 i173 := by kernel_rfl
 i175 := by kernel_rfl
 i210 := by kernel_rfl
 i212 := by kernel_rfl
 i232 := by kernel_rfl
 i233 := by kernel_rfl
 m15 := by kernel_rfl
 m16 := by kernel_rfl
 m17 := by kernel_rfl
 m18 := by kernel_rfl
 m19 := by kernel_rfl
 c0 := by kernel_rfl
 c2 := by kernel_rfl
 c3 := by kernel_rfl
 c4 := by kernel_rfl
 c5 := by kernel_rfl
 c9 := by kernel_rfl
 c20 := by kernel_rfl
 c21 := by kernel_rfl
 c37 := by kernel_rfl
 c46 := by kernel_rfl
 c51 := by kernel_rfl
 c53 := by kernel_rfl
 c75 := by kernel_rfl
 c80 := by kernel_rfl
 c85 := by kernel_rfl
 c127 := by kernel_rfl
 c143 := by kernel_rfl
 c145 := by kernel_rfl
 c167 := by kernel_rfl
 c168 := by kernel_rfl
 c171 := by kernel_rfl
 c173 := by kernel_rfl
 c175 := by kernel_rfl
 c210 := by kernel_rfl
 c212 := by kernel_rfl
 c213 := by kernel_rfl
 c232 := by kernel_rfl
 c233 := by kernel_rfl }
open Go.RowKit in
theorem Tryz.strconv_ParseInt_10_at64_ok (s : ByteArray) (hmax : s.size ≤ 9223372036854775806) (v : Int) (h : Lib.parseIntB 64 s.data.toList = .ok v) (w : World) :
  Calls Tryz.prog 66 #[.string s, .int .i64 10, .int .i64 64] w fun e w' => e = .returned (.tuple #[.int .i64 v, .nilIface]) ∧ (w' = w ∨ ∃ t, w' = Lib.bytesWorld w 5 t) := Any.strconv_ParseInt_10_at64_ok Tryz.laysC174 s hmax v h w
open Go.RowKit in
theorem Tryz.strconv_ParseInt_10_at64_syntax_var (s : ByteArray) (hlim : s.size ≤ 281474976710656) (h : Lib.parseIntB 64 s.data.toList = Go.Lib.NumEnd.syntax) (tp : TypeId) (p : Value) (w : World) (hvar : w.var? Tryz.prog "strconv.ErrSyntax" = some #[.iface tp p]) :
  Calls Tryz.prog 66 #[.string s, .int .i64 10, .int .i64 64] w fun e w' => ∃ N, e = .returned (.tuple #[.int .i64 (0), .iface 140 (.pointer (some ⟨N, 0, none⟩))]) ∧ w.heap.size ≤ N ∧ w'.heap[N]? = some (.cells #[.string ⟨#[80, 97, 114, 115, 101, 73, 110, 116]⟩, .string s, .iface tp p] 164 (0, 0)) ∧ Below w.heap.size w w' := Any.strconv_ParseInt_10_at64_syntax_var Tryz.laysC174 s hlim h tp p w hvar
open Go.RowKit in
theorem Tryz.strconv_ParseInt_10_at64_range_var (s : ByteArray) (hlim : s.size ≤ 281474976710656) (h : Lib.parseIntB 64 s.data.toList = .range) (tp : TypeId) (p : Value) (w : World) (hvar : w.var? Tryz.prog "strconv.ErrRange" = some #[.iface tp p]) :
  Calls Tryz.prog 66 #[.string s, .int .i64 10, .int .i64 64] w fun e w' => ∃ N, e = .returned (.tuple #[.int .i64 (Lib.intSat 64 s.data.toList), .iface 140 (.pointer (some ⟨N, 0, none⟩))]) ∧ w.heap.size ≤ N ∧ w'.heap[N]? = some (.cells #[.string ⟨#[80, 97, 114, 115, 101, 73, 110, 116]⟩, .string s, .iface tp p] 164 (0, 0)) ∧ Below w.heap.size w w' := Any.strconv_ParseInt_10_at64_range_var Tryz.laysC174 s hlim h tp p w hvar
def Tryz.lays219_ren : Go.Shelf.Ren := ⟨fun | 219 => 126 | 217 => 145 | 225 => 146 | 224 => 147 | 267 => 148 | 266 => 158 | 314 => 159 | n => n, fun | 9 => 9 | 3 => 3 | 4 => 4 | 5 => 5 | 46 => 100 | 146 => 190 | 51 => 169 | n => n, fun | 1 => 3 | n => n⟩
theorem Tryz.lays219 : Go.Proofs.Lays.n219 Tryz.prog Tryz.lays219_ren := {
 mixed := by kernel_rfl
 f217 := Tryz.func145.trans (congrArg some (by kernel_rfl))
 f219 := Tryz.func126.trans (congrArg some (by kernel_rfl))
 f224 := Tryz.func147.trans (congrArg some (by kernel_rfl))
 f225 := Tryz.func146.trans (congrArg some (by kernel_rfl))
 f266 := Tryz.func158.trans (congrArg some (by kernel_rfl))
 f267 := Tryz.func148.trans (congrArg some (by kernel_rfl))
 f314 := Tryz.func159.trans (congrArg some (by kernel_rfl))
 t3 := Tryz.underlying3
 a3 := Tryz.isAgg3
 z3 := Tryz.sizeOf3
 v3 := Tryz.zeroValue3
 t4 := Tryz.underlying4
 a4 := Tryz.isAgg4
 z4 := Tryz.sizeOf4
 v4 := Tryz.zeroValue4
 t5 := Tryz.underlying5
 a5 := Tryz.isAgg5
 z5 := Tryz.sizeOf5
 v5 := Tryz.zeroValue5
 t9 := Tryz.underlying9
 a9 := Tryz.isAgg9
 z9 := Tryz.sizeOf9
 v9 := Tryz.zeroValue9
 t46 := Tryz.underlying100
 a46 := Tryz.isAgg100
 z46 := Tryz.sizeOf100
 v46 := Tryz.zeroValue100
 t51 := Tryz.underlying169
 a51 := Tryz.isAgg169
 z51 := Tryz.sizeOf169
 v51 := Tryz.zeroValue169
 t146 := Tryz.underlying190
 a146 := Tryz.isAgg190
 z146 := Tryz.sizeOf190
 v146 := Tryz.zeroValue190
 g1 := by kernel_rfl }
open Go.RowKit Go.Lib in
theorem Tryz.stringslite_Index_one (s : ByteArray) (c : UInt8) (w : World) :
  Calls Tryz.prog 126 #[.string s, .string ⟨#[c]⟩] w fun e w' => e = .returned (.int .i64 (Lib.indexByte s.data.toList c)) ∧ w' = w := Any.stringslite_Index_one Tryz.lays219 s c w
open Go.RowKit Go.Lib in
theorem Tryz.stringslite_Index (s sub : ByteArray) (m : Int) (w : World) (hs : s.size < 4294967281) (hm : w.cell? ⟨3, 0, none⟩ = some (.int .i64 m)) :
  Calls Tryz.prog 126 #[.string s, .string sub] w fun e w' => e = .returned (.int .i64 (Lib.index s.data.toList sub.data.toList)) ∧ w' = w := Any.stringslite_Index Tryz.lays219 s sub m w hs hm
def Tryz.lays143_ren : Go.Shelf.Ren := ⟨fun | 143 => 102 | 219 => 126 | 217 => 145 | 225 => 146 | 224 => 147 | 267 => 148 | 266 => 158 | 314 => 159 | n => n, fun | 9 => 9 | 3 => 3 | 4 => 4 | 5 => 5 | 46 => 100 | 146 => 190 | 51 => 169 | n => n, fun | 1 => 3 | n => n⟩
theorem Tryz.lays143 : Go.Proofs.Lays.n143 Tryz.prog Tryz.lays143_ren := {
 mixed := by kernel_rfl
 f143 := Tryz.func102.trans (congrArg some (by kernel_rfl))
 f217 := Tryz.func145.trans (congrArg some (by kernel_rfl))
 f219 := Tryz.func126.trans (congrArg some (by kernel_rfl))
 f224 := Tryz.func147.trans (congrArg some (by kernel_rfl))
 f225 := Tryz.func146.trans (congrArg some (by kernel_rfl))
 f266 := Tryz.func158.trans (congrArg some (by kernel_rfl))
 f267 := Tryz.func148.trans (congrArg some (by kernel_rfl))
 f314 := Tryz.func159.trans (congrArg some (by kernel_rfl))
 t3 := Tryz.underlying3
 a3 := Tryz.isAgg3
 z3 := Tryz.sizeOf3
 v3 := Tryz.zeroValue3
 t4 := Tryz.underlying4
 a4 := Tryz.isAgg4
 z4 := Tryz.sizeOf4
 v4 := Tryz.zeroValue4
 t5 := Tryz.underlying5
 a5 := Tryz.isAgg5
 z5 := Tryz.sizeOf5
 v5 := Tryz.zeroValue5
 t9 := Tryz.underlying9
 a9 := Tryz.isAgg9
 z9 := Tryz.sizeOf9
 v9 := Tryz.zeroValue9
 t46 := Tryz.underlying100
 a46 := Tryz.isAgg100
 z46 := Tryz.sizeOf100
 v46 := Tryz.zeroValue100
 t51 := Tryz.underlying169
 a51 := Tryz.isAgg169
 z51 := Tryz.sizeOf169
 v51 := Tryz.zeroValue169
 t146 := Tryz.underlying190
 a146 := Tryz.isAgg190
 z146 := Tryz.sizeOf190
 v146 := Tryz.zeroValue190
 g1 := by kernel_rfl }
open Go.RowKit Go.Lib in
theorem Tryz.strings_Index (s sub : ByteArray) (m : Int) (w : World) (hs : s.size < 4294967281) (hm : w.cell? ⟨3, 0, none⟩ = some (.int .i64 m)) :
  Calls Tryz.prog 102 #[.string s, .string sub] w fun e w' => e = .returned (.int .i64 (Lib.index s.data.toList sub.data.toList)) ∧ w' = w := Any.strings_Index Tryz.lays143 s sub m w hs hm
def Tryz.lays145_ren : Go.Shelf.Ren := ⟨fun | 145 => 140 | 220 => 154 | 219 => 126 | 217 => 145 | 225 => 146 | 224 => 147 | 267 => 148 | 266 => 158 | 314 => 159 | n => n, fun | 9 => 9 | 4 => 4 | 59 => 174 | 3 => 3 | 5 => 5 | 46 => 100 | 146 => 190 | 51 => 169 | n => n, fun | 1 => 3 | n => n⟩
theorem Tryz.lays145 : Go.Proofs.Lays.n145 Tryz.prog Tryz.lays145_ren := {
 mixed := by kernel_rfl
 f145 := Tryz.func140.trans (congrArg some (by kernel_rfl))
 f217 := Tryz.func145.trans (congrArg some (by kernel_rfl))
 f219 := Tryz.func126.trans (congrArg some (by kernel_rfl))
 f220 := Tryz.func154.trans (congrArg some (by kernel_rfl))
 f224 := Tryz.func147.trans (congrArg some (by kernel_rfl))
 f225 := Tryz.func146.trans (congrArg some (by kernel_rfl))
 f266 := Tryz.func158.trans (congrArg some (by kernel_rfl))
 f267 := Tryz.func148.trans (congrArg some (by kernel_rfl))
 f314 := Tryz.func159.trans (congrArg some (by kernel_rfl))
 t3 := Tryz.underlying3
 a3 := Tryz.isAgg3
 z3 := Tryz.sizeOf3
 v3 := Tryz.zeroValue3
 t4 := Tryz.underlying4
 a4 := Tryz.isAgg4
 z4 := Tryz.sizeOf4
 v4 := Tryz.zeroValue4
 t5 := Tryz.underlying5
 a5 := Tryz.isAgg5
 z5 := Tryz.sizeOf5
 v5 := Tryz.zeroValue5
 t9 := Tryz.underlying9
 a9 := Tryz.isAgg9
 z9 := Tryz.sizeOf9
 v9 := Tryz.zeroValue9
 t46 := Tryz.underlying100
 a46 := Tryz.isAgg100
 z46 := Tryz.sizeOf100
 v46 := Tryz.zeroValue100
 t51 := Tryz.underlying169
 a51 := Tryz.isAgg169
 z51 := Tryz.sizeOf169
 v51 := Tryz.zeroValue169
 t59 := Tryz.underlying174
 a59 := Tryz.isAgg174
 z59 := Tryz.sizeOf174
 v59 := Tryz.zeroValue174
 t146 := Tryz.underlying190
 a146 := Tryz.isAgg190
 z146 := Tryz.sizeOf190
 v146 := Tryz.zeroValue190
 g1 := by kernel_rfl }
open Go.RowKit Go.Lib in
theorem Tryz.strings_Cut (s sep : ByteArray) (m : Int) (w : World) (hs : s.size < 4294967281) (hm : w.cell? ⟨3, 0, none⟩ = some (.int .i64 m)) :
  Calls Tryz.prog 140 #[.string s, .string sep] w fun e w' => e = .returned (.tuple #[.string ⟨(Lib.cut s.data.toList sep.data.toList).1.toArray⟩, .string ⟨(Lib.cut s.data.toList sep.data.toList).2.1.toArray⟩, .bool (Lib.cut s.data.toList sep.data.toList).2.2]) ∧ ∃ n, w' = w.drewN n := Any.strings_Cut Tryz.lays145 s sep m w hs hm
def Tryz.lays138_ren : Go.Shelf.Ren := ⟨fun | 138 => 101 | 195 => 123 | 218 => 125 | 143 => 102 | 219 => 126 | 217 => 145 | 225 => 146 | 224 => 147 | 267 => 148 | 266 => 158 | 314 => 159 | n => n, fun | 9 => 9 | 3 => 3 | 4 => 4 | 5 => 5 | 0 => 0 | 46 => 100 | 146 => 190 | 51 => 169 | n => n, fun | 1 => 3 | n => n⟩
theorem Tryz.lays138 : Go.Proofs.Lays.n138 Tryz.prog Tryz.lays138_ren := {
 mixed := by kernel_rfl
 f138 := Tryz.func101.trans (congrArg some (by kernel_rfl))
 f143 := Tryz.func102.trans (congrArg some (by kernel_rfl))
 f195 := Tryz.func123.trans (congrArg some (by kernel_rfl))
 f217 := Tryz.func145.trans (congrArg some (by kernel_rfl))
 f218 := Tryz.func125.trans (congrArg some (by kernel_rfl))
 f219 := Tryz.func126.trans (congrArg some (by kernel_rfl))
 f224 := Tryz.func147.trans (congrArg some (by kernel_rfl))
 f225 := Tryz.func146.trans (congrArg some (by kernel_rfl))
 f266 := Tryz.func158.trans (congrArg some (by kernel_rfl))
 f267 := Tryz.func148.trans (congrArg some (by kernel_rfl))
 f314 := Tryz.func159.trans (congrArg some (by kernel_rfl))
 t0 := Tryz.underlying0
 a0 := Tryz.isAgg0
 z0 := Tryz.sizeOf0
 v0 := Tryz.zeroValue0
 t3 := Tryz.underlying3
 a3 := Tryz.isAgg3
 z3 := Tryz.sizeOf3
 v3 := Tryz.zeroValue3
 t4 := Tryz.underlying4
 a4 := Tryz.isAgg4
 z4 := Tryz.sizeOf4
 v4 := Tryz.zeroValue4
 t5 := Tryz.underlying5
 a5 := Tryz.isAgg5
 z5 := Tryz.sizeOf5
 v5 := Tryz.zeroValue5
 t9 := Tryz.underlying9
 a9 := Tryz.isAgg9
 z9 := Tryz.sizeOf9
 v9 := Tryz.zeroValue9
 t46 := Tryz.underlying100
 a46 := Tryz.isAgg100
 z46 := Tryz.sizeOf100
 v46 := Tryz.zeroValue100
 t51 := Tryz.underlying169
 a51 := Tryz.isAgg169
 z51 := Tryz.sizeOf169
 v51 := Tryz.zeroValue169
 t146 := Tryz.underlying190
 a146 := Tryz.isAgg190
 z146 := Tryz.sizeOf190
 v146 := Tryz.zeroValue190
 g1 := by kernel_rfl }
open Go.RowKit Go.Lib in
theorem Tryz.strings_Count_one (s : ByteArray) (c : UInt8) (w : World) :
  Calls Tryz.prog 101 #[.string s, .string ⟨#[c]⟩] w fun e w' => e = .returned (.int .i64 (Lib.countByte s.data.toList c)) ∧ w' = w := Any.strings_Count_one Tryz.lays138 s c w
open Go.RowKit Go.Lib in
theorem Tryz.strings_Count (s sub : ByteArray) (m : Int) (w : World) (hs : s.size < 4294967281) (hm : w.cell? ⟨3, 0, none⟩ = some (.int .i64 m)) (h2 : 2 ≤ sub.size) :
  Calls Tryz.prog 101 #[.string s, .string sub] w fun e w' => e = .returned (.int .i64 (Lib.countB s sub)) ∧ w' = w := Any.strings_Count Tryz.lays138 s sub m w hs hm h2
def Tryz.lays99_ren : Go.Shelf.Ren := ⟨fun | 99 => 155 | 206 => 153 | n => n, fun | 9 => 9 | 4 => 4 | 3 => 3 | n => n, fun | n => n⟩
theorem Tryz.lays99 : Go.Proofs.Lays.n99 Tryz.prog Tryz.lays99_ren := {
 mixed := by kernel_rfl
 f99 := Tryz.func155.trans (congrArg some (by kernel_rfl))
 f206 := Tryz.func153.trans (congrArg some (by kernel_rfl))
 t3 := Tryz.underlying3
 a3 := Tryz.isAgg3
 z3 := Tryz.sizeOf3
 v3 := Tryz.zeroValue3
 t4 := Tryz.underlying4
 a4 := Tryz.isAgg4
 z4 := Tryz.sizeOf4
 v4 := Tryz.zeroValue4
 t9 := Tryz.underlying9
 a9 := Tryz.isAgg9
 z9 := Tryz.sizeOf9
 v9 := Tryz.zeroValue9 }
open Go.RowKit Go.Lib in
theorem Tryz.strings_HasPrefix (s p : ByteArray) (w : World) :
  Calls Tryz.prog 155 #[.string s, .string p] w fun e w' => e = .returned (.bool (Lib.hasPrefix s.data.toList p.data.toList)) ∧ w' = w := Any.strings_HasPrefix Tryz.lays99 s p w
def Tryz.lays101_ren : Go.Shelf.Ren := ⟨fun | 101 => 119 | 208 => 139 | 206 => 153 | n => n, fun | 9 => 9 | 4 => 4 | 3 => 3 | n => n, fun | n => n⟩
theorem Tryz.lays101 : Go.Proofs.Lays.n101 Tryz.prog Tryz.lays101_ren := {
 mixed := by kernel_rfl
 f101 := Tryz.func119.trans (congrArg some (by kernel_rfl))
 f206 := Tryz.func153.trans (congrArg some (by kernel_rfl))
 f208 := Tryz.func139.trans (congrArg some (by kernel_rfl))
 t3 := Tryz.underlying3
 a3 := Tryz.isAgg3
 z3 := Tryz.sizeOf3
 v3 := Tryz.zeroValue3
 t4 := Tryz.underlying4
 a4 := Tryz.isAgg4
 z4 := Tryz.sizeOf4
 v4 := Tryz.zeroValue4
 t9 := Tryz.underlying9
 a9 := Tryz.isAgg9
 z9 := Tryz.sizeOf9
 v9 := Tryz.zeroValue9 }
open Go.RowKit Go.Lib in
theorem Tryz.strings_TrimPrefix (s p : ByteArray) (w : World) :
  Calls Tryz.prog 119 #[.string s, .string p] w fun e w' => e = .returned (.string ⟨(Lib.trimPrefix s.data.toList p.data.toList).toArray⟩) ∧ w' = w := Any.strings_TrimPrefix Tryz.lays101 s p w
def Tryz.lays221_ren : Go.Shelf.Ren := ⟨fun | 221 => 87 | 268 => 100 | 138 => 101 | 143 => 102 | 195 => 123 | 197 => 124 | 218 => 125 | 219 => 126 | 260 => 144 | 217 => 145 | 225 => 146 | 224 => 147 | 267 => 148 | 266 => 158 | 314 => 159 | n => n, fun | 9 => 9 | 3 => 3 | 31 => 42 | 4 => 4 | 0 => 0 | 105 => 159 | 21 => 21 | 5 => 5 | 46 => 100 | 119 => 186 | 139 => 189 | 138 => 188 | 146 => 190 | 51 => 169 | n => n, fun | 1 => 3 | 3 => 4 | 4 => 5 | n => n⟩
theorem Tryz.lays221 : Go.Proofs.Lays.n221 Tryz.prog Tryz.lays221_ren := {
 mixed := by kernel_rfl
 f138 := Tryz.func101.trans (congrArg some (by kernel_rfl))
 f143 := Tryz.func102.trans (congrArg some (by kernel_rfl))
 f195 := Tryz.func123.trans (congrArg some (by kernel_rfl))
 f197 := Tryz.func124.trans (congrArg some (by kernel_rfl))
 f217 := Tryz.func145.trans (congrArg some (by kernel_rfl))
 f218 := Tryz.func125.trans (congrArg some (by kernel_rfl))
 f219 := Tryz.func126.trans (congrArg some (by kernel_rfl))
 f221 := Tryz.func87.trans (congrArg some (by kernel_rfl))
 f224 := Tryz.func147.trans (congrArg some (by kernel_rfl))
 f225 := Tryz.func146.trans (congrArg some (by kernel_rfl))
 f260 := Tryz.func144.trans (congrArg some (by kernel_rfl))
 f266 := Tryz.func158.trans (congrArg some (by kernel_rfl))
 f267 := Tryz.func148.trans (congrArg some (by kernel_rfl))
 f268 := Tryz.func100.trans (congrArg some (by kernel_rfl))
 f314 := Tryz.func159.trans (congrArg some (by kernel_rfl))
 t0 := Tryz.underlying0
 a0 := Tryz.isAgg0
 z0 := Tryz.sizeOf0
 v0 := Tryz.zeroValue0
 t3 := Tryz.underlying3
 a3 := Tryz.isAgg3
 z3 := Tryz.sizeOf3
 v3 := Tryz.zeroValue3
 t4 := Tryz.underlying4
 a4 := Tryz.isAgg4
 z4 := Tryz.sizeOf4
 v4 := Tryz.zeroValue4
 t5 := Tryz.underlying5
 a5 := Tryz.isAgg5
 z5 := Tryz.sizeOf5
 v5 := Tryz.zeroValue5
 t9 := Tryz.underlying9
 a9 := Tryz.isAgg9
 z9 := Tryz.sizeOf9
 v9 := Tryz.zeroValue9
 t21 := Tryz.underlying21
 a21 := Tryz.isAgg21
 z21 := Tryz.sizeOf21
 v21 := Tryz.zeroValue21
 t31 := Tryz.underlying42
 a31 := Tryz.isAgg42
 z31 := Tryz.sizeOf42
 v31 := Tryz.zeroValue42
 t46 := Tryz.underlying100
 a46 := Tryz.isAgg100
 z46 := Tryz.sizeOf100
 v46 := Tryz.zeroValue100
 t51 := Tryz.underlying169
 a51 := Tryz.isAgg169
 z51 := Tryz.sizeOf169
 v51 := Tryz.zeroValue169
 t105 := Tryz.underlying159
 a105 := Tryz.isAgg159
 z105 := Tryz.sizeOf159
 v105 := Tryz.zeroValue159
 t119 := Tryz.underlying186
 a119 := Tryz.isAgg186
 z119 := Tryz.sizeOf186
 t138 := Tryz.underlying188
 a138 := Tryz.isAgg188
 z138 := Tryz.sizeOf188
 v138 := Tryz.zeroValue188
 t139 := Tryz.underlying189
 a139 := Tryz.isAgg189
 z139 := Tryz.sizeOf189
 v139 := Tryz.zeroValue189
 t146 := Tryz.underlying190
 a146 := Tryz.isAgg190
 z146 := Tryz.sizeOf190
 v146 := Tryz.zeroValue190
 g1 := by kernel_rfl
 g3 := by kernel_rfl
 g4 := by kernel_rfl }
open Go.RowKit Go.Lib in
theorem Tryz.strings_genSplit (s sep : ByteArray) (sv : Nat) (n : Int) (N : Nat) (m : Int) (w : World) (hs : s.size < 4294967281) (hm : w.cell? ⟨3, 0, none⟩ = some (.int .i64 m)) (h1 : 1 ≤ sep.size) (hsv : sv ≤ sep.size) (hn0 : n ≠ 0) (hn63 : n ≤ 9223372036854775807) (hN : (N : Int) = min (if n < 0 then (Lib.countB s sep : Int) + 1 else n) ((s.size : Int) + 1)) :
  Calls Tryz.prog 87 #[.string s, .string sep, .int .i64 sv, .int .i64 n] w fun e w' =>
   e = .returned (.slice (some ⟨w.heap.size, 0, none⟩) (Lib.splitB sep sv (N - 1) s).length N) ∧ w' = w.alloc (.cells (Lib.cellsOf (Lib.splitB sep sv (N - 1) s) N) 9) := Any.strings_genSplit Tryz.lays221 (by kernel_rfl) s sep sv n N m w hs hm h1 hsv hn0 hn63 hN
def Tryz.lays146_ren : Go.Shelf.Ren := ⟨fun | 146 => 65 | 221 => 87 | 268 => 100 | 138 => 101 | 143 => 102 | 195 => 123 | 197 => 124 | 218 => 125 | 219 => 126 | 260 => 144 | 217 => 145 | 225 => 146 | 224 => 147 | 267 => 148 | 266 => 158 | 314 => 159 | n => n, fun | 9 => 9 | 31 => 42 | 3 => 3 | 4 => 4 | 0 => 0 | 105 => 159 | 21 => 21 | 5 => 5 | 46 => 100 | 119 => 186 | 139 => 189 | 138 => 188 | 146 => 190 | 51 => 169 | n => n, fun | 1 => 3 | 3 => 4 | 4 => 5 | n => n⟩
theorem Tryz.lays146 : Go.Proofs.Lays.n146 Tryz.prog Tryz.lays146_ren := {
 mixed := by kernel_rfl
 f138 := Tryz.func101.trans (congrArg some (by kernel_rfl))
 f143 := Tryz.func102.trans (congrArg some (by kernel_rfl))
 f146 := Tryz.func65.trans (congrArg some (by kernel_rfl))
 f195 := Tryz.func123.trans (congrArg some (by kernel_rfl))
 f197 := Tryz.func124.trans (congrArg some (by kernel_rfl))
 f217 := Tryz.func145.trans (congrArg some (by kernel_rfl))
 f218 := Tryz.func125.trans (congrArg some (by kernel_rfl))
 f219 := Tryz.func126.trans (congrArg some (by kernel_rfl))
 f221 := Tryz.func87.trans (congrArg some (by kernel_rfl))
 f224 := Tryz.func147.trans (congrArg some (by kernel_rfl))
 f225 := Tryz.func146.trans (congrArg some (by kernel_rfl))
 f260 := Tryz.func144.trans (congrArg some (by kernel_rfl))
 f266 := Tryz.func158.trans (congrArg some (by kernel_rfl))
 f267 := Tryz.func148.trans (congrArg some (by kernel_rfl))
 f268 := Tryz.func100.trans (congrArg some (by kernel_rfl))
 f314 := Tryz.func159.trans (congrArg some (by kernel_rfl))
 t0 := Tryz.underlying0
 a0 := Tryz.isAgg0
 z0 := Tryz.sizeOf0
 v0 := Tryz.zeroValue0
 t3 := Tryz.underlying3
 a3 := Tryz.isAgg3
 z3 := Tryz.sizeOf3
 v3 := Tryz.zeroValue3
 t4 := Tryz.underlying4
 a4 := Tryz.isAgg4
 z4 := Tryz.sizeOf4
 v4 := Tryz.zeroValue4
 t5 := Tryz.underlying5
 a5 := Tryz.isAgg5
 z5 := Tryz.sizeOf5
 v5 := Tryz.zeroValue5
 t9 := Tryz.underlying9
 a9 := Tryz.isAgg9
 z9 := Tryz.sizeOf9
 v9 := Tryz.zeroValue9
 t21 := Tryz.underlying21
 a21 := Tryz.isAgg21
 z21 := Tryz.sizeOf21
 v21 := Tryz.zeroValue21
 t31 := Tryz.underlying42
 a31 := Tryz.isAgg42
 z31 := Tryz.sizeOf42
 v31 := Tryz.zeroValue42
 t46 := Tryz.underlying100
 a46 := Tryz.isAgg100
 z46 := Tryz.sizeOf100
 v46 := Tryz.zeroValue100
 t51 := Tryz.underlying169
 a51 := Tryz.isAgg169
 z51 := Tryz.sizeOf169
 v51 := Tryz.zeroValue169
 t105 := Tryz.underlying159
 a105 := Tryz.isAgg159
 z105 := Tryz.sizeOf159
 v105 := Tryz.zeroValue159
 t119 := Tryz.underlying186
 a119 := Tryz.isAgg186
 z119 := Tryz.sizeOf186
 t138 := Tryz.underlying188
 a138 := Tryz.isAgg188
 z138 := Tryz.sizeOf188
 v138 := Tryz.zeroValue188
 t139 := Tryz.underlying189
 a139 := Tryz.isAgg189
 z139 := Tryz.sizeOf189
 v139 := Tryz.zeroValue189
 t146 := Tryz.underlying190
 a146 := Tryz.isAgg190
 z146 := Tryz.sizeOf190
 v146 := Tryz.zeroValue190
 g1 := by kernel_rfl
 g3 := by kernel_rfl
 g4 := by kernel_rfl }
open Go.RowKit Go.Lib in
theorem Tryz.strings_Split (s sep : ByteArray) (m : Int) (w : World) (hs : s.size < 4294967281) (hm : w.cell? ⟨3, 0, none⟩ = some (.int .i64 m)) (h1 : 1 ≤ sep.size) :
  Calls Tryz.prog 65 #[.string s, .string sep] w fun e w' =>
   e = .returned (.slice (some ⟨w.heap.size, 0, none⟩) (Lib.countB s sep + 1) (Lib.countB s sep + 1)) ∧ w' = w.alloc (.cells ((Lib.splitB sep 0 (Lib.countB s sep) s).map Value.string).toArray 9) := Any.strings_Split Tryz.lays146 (by kernel_rfl) s sep m w hs hm h1
def Tryz.laysSlE041_f42_ren : Go.Shelf.Ren := ⟨fun | 41 => 42 | n => n, fun | 22 => 42 | 23 => 9 | 4 => 4 | n => n, fun | n => n⟩
theorem Tryz.laysSlE041_f42 : Go.Proofs.SlLaysE0.n41 Tryz.prog Tryz.laysSlE041_f42_ren := {
 mixed := by kernel_rfl
 f41 := ⟨Tryz.f42.name, by decide, Tryz.func42.trans (congrArg some (by kernel_rfl))⟩
 t4 := Tryz.underlying4
 a4 := Tryz.isAgg4
 z4 := Tryz.sizeOf4
 v4 := Tryz.zeroValue4
 t22 := Tryz.underlying42
 a22 := Tryz.isAgg42
 z22 := Tryz.sizeOf42
 v22 := Tryz.zeroValue42 }
open Go.RowKit Go.Lib in
theorem Tryz.slices_Clone (i0 : TypeInfo) (z : Value) (size bytes : Nat) (hi : Tryz.prog.info? 9 = some i0) (hz0 : i0.zero = some z) (hz1 : i0.size = size) (hz2 : i0.bytes = bytes) (hzs : z.cells.size = size) (hsz : 0 < size) (z23 : ∀ w, (Go.sizeOf 9).run Tryz.prog w = .ok size w) (b off n c : Nat) (news : List Value) (w : World) (hl : news.length = n * size) (hn : n ≤ maxLen) (hbig : n * bytes ≤ 140737488355328) (hc : ∀ j u, news[j]? = some u → w.cell? ⟨b, off + j, none⟩ = some u) (h1 : ∀ u ∈ news, u.oneCell' = true) :
  Calls Tryz.prog 42 #[.slice (some ⟨b, off, none⟩) n c] w fun e w' => ∃ v', e = .returned v' ∧ w'.ownsRow w.heap.size 9 size v' n news ∧ v' ≠ .slice none 0 0 ∧ Below w.heap.size w w' := AnyE.slices_Clone Tryz.laysSlE041_f42 i0 z size bytes hi hz0 hz1 hz2 hzs hsz z23 b off n c news w hl hn hbig hc h1
open Go.RowKit Go.Lib in
theorem Tryz.slices_Clone_nil (n c : Nat) (w : World) :
  Calls Tryz.prog 42 #[.slice none n c] w fun e w' => e = .returned (.slice none 0 0) ∧ w' = w := AnyE.slices_Clone_nil Tryz.laysSlE041_f42 n c w
end Go.Proofs
end
section
set_option linter.unusedVariables false
set_option linter.unusedSimpArgs false
namespace Go.Gp
open Go.Vd Go.RowKit Go.Proofs
theorem MM (N : Nat) (s : List UInt8) (c : UInt8) (r : Int) (h : strings_IndexByte N s c = some r) : Sat Tryz.prog 156 AO [.str s, eb c] (.int .i64 r) AO := by
 cases h
 refine iT (vs := [.string ⟨s.toArray⟩, .int .u8 (c.toNat : Int)]) rfl rfl fun w => ?_
 have h := Tryz.strings_IndexByte ⟨s.toArray⟩ (c.toNat : Int) w
 have e : ((c.toNat : Int)).toNat.toUInt8 = c := by simp
 rw [e] at h
 exact h
theorem QP (N : Nat) (s p : List UInt8) (r : Int) (h : stringslite_Index N s p = some r) : Sat Tryz.prog 126 AO [.str s, .str p] (.int .i64 r) AO := by
 obtain ⟨c, rfl, rfl⟩ := XY h
 exact iT (vs := [.string ⟨s.toArray⟩, .string ⟨#[c]⟩]) rfl rfl fun w => Tryz.stringslite_Index_one ⟨s.toArray⟩ c w
theorem cK (N : Nat) (s p : List UInt8) (r : Int) (h : strings_Count N s p = some r) : Sat Tryz.prog 101 AO [.str s, .str p] (.int .i64 r) AO := by
 obtain ⟨c, rfl, rfl⟩ := bY h
 exact iT (vs := [.string ⟨s.toArray⟩, .string ⟨#[c]⟩]) rfl rfl fun w => Tryz.strings_Count_one ⟨s.toArray⟩ c w
theorem XZ (N : Nat) (n b : Int) (r : List UInt8) (h : KG N n b = some r) : Sat Tryz.prog 70 AO [.int .i64 n, .int .i64 b] (.str r) AO :=
 Ky (fun n h0 h1 w hw => Tryz.strconv_FormatInt_10 n h0 h1 w (show Laid w from hw).tab) h
theorem VZ (N : Nat) (n : Int) (r : List UInt8) (h : strconv_Itoa N n = some r) : Sat Tryz.prog 71 AO [.int .i64 n] (.str r) AO :=
 Cz (fun n h0 h1 w hw => Tryz.strconv_Itoa n h0 h1 w (show Laid w from hw).tab) h
theorem Y9 (N : Nat) (s : List UInt8) (b k : Int) (r : Int × Bool) (h : NU N s b k = some r) : Sat Tryz.prog 66 AO [.str s, .int .i64 b, .int .i64 k] (.tup [.int .i64 r.1, eErr 140 r.2]) AO := by
 refine Cy (fun s v hs hv w => Tryz.strconv_ParseInt_10_at64_ok s (by omega) v hv w) (fun s hs hv w hw => ?_) (fun s hs hv w hw => ?_) h
 ·obtain ⟨tp, p, hk⟩ := (show Laid w from hw).syn
  refine (Tryz.strconv_ParseInt_10_at64_syntax_var s hs hv tp p w hk).mono ?_
  rintro e w' ⟨N, h1, _, _, h2⟩
  exact ⟨N, h1, h2⟩
 ·obtain ⟨tp, p, hk⟩ := (show Laid w from hw).ran
  refine (Tryz.strconv_ParseInt_10_at64_range_var s hs hv tp p w hk).mono ?_
  rintro e w' ⟨N, h1, _, _, h2⟩
  exact ⟨N, h1, h2⟩
end Go.Gp
end
section
set_option linter.unusedVariables false
set_option linter.unusedSimpArgs false
set_option maxRecDepth 4000
namespace Go.Gp
open Go.Vd Go.RowKit Go.Proofs
def k154 : IC := (.seq (.reg [jc 4 (.str []), jc 5 (.str []), jc 6 (.bool false)]) (.seq (.seq (.reg [jm 8 0, jm 9 1, jn 10 (.call 126 [(.t 8), (.t 9)]), jm 7 10]) (.seq (.reg [jm 11 7, ju .geq 12 11 0]) (.cond (.t 12) (.seq (.regd 12 [jm 13 0, jm 14 7, jn 15 (.slcs (.t 13) none (some (.t 14))), jm 16 0, jm 17 7, jm 18 1, jS 19 18, jb .add 20 17 19, jn 21 (.slcs (.t 16) (some (.t 20)) none), jm 4 15, jm 5 21, jc 6 (.bool true)]) .ret) .skip))) (.seq (.reg [jm 22 0, jm 4 22, jc 5 (.str []), jc 6 (.bool false)]) .ret)))
theorem Mc : BX Tryz.prog Tryz.f154 = some ⟨23, k154, [(.tmp 4), (.tmp 5), (.tmp 6)]⟩ := by kernel_rfl
theorem S9 (N : Nat) (a0 : List UInt8) (a1 : List UInt8) (r : List UInt8 × List UInt8 × Bool) (h : KU N a0 a1 = some r) : Sat Tryz.prog 154 AO [.str a0, .str a1] (.tup [.str r.1, .str r.2.1, .bool r.2.2]) AO := by
 refine DT mixed Tryz.func154 Mc (rs := [.str r.1, .str r.2.1, .bool r.2.2]) rfl rfl ?_
 refine AJ ?_
 refine AC ?_
 iterate 3 refine A7 rfl rfl ?_
 iterate 2 refine AJ ?_
 refine AC ?_
 iterate 2 refine A7 rfl rfl ?_
 obtain ⟨R9, VK, h⟩ := AL h
 refine CS rfl (CG (QP N _ _ _ VK) rfl (.cons A9 (.cons A9 .nil)) rfl rfl rfl) ?_
 refine A7 rfl rfl ?_
 refine AJ ?_
 refine AC ?_
 iterate 2 refine A7 rfl rfl ?_
 refine D8 h rfl (fun c1 h => ?_) (fun c1 h => ?_)
 refine AJ ?_
 refine OD ?_
 iterate 2 refine DL rfl rfl ?_
 obtain ⟨N7, SE, h⟩ := AL h
 refine DL rfl (jJ SE rfl rfl) ?_
 iterate 4 refine DL rfl rfl ?_
 refine DL (p := .int .i64 (BQ (R9 + (a1.length : Int)))) rfl rfl ?_
 obtain ⟨V3, YG, h⟩ := AL h
 refine DL rfl (YC YG rfl rfl) ?_
 iterate 3 refine DL rfl rfl ?_
 cases AB h
 refine BS ?_
 exact ⟨nofun, rfl, rfl⟩
 refine BF ?_
 refine AJ ?_
 refine AC ?_
 iterate 4 refine A7 rfl rfl ?_
 cases AB h
 refine BS ?_
 exact ⟨nofun, rfl, rfl⟩
def k140 : IC := (.seq (.reg [jc 4 (.str []), jc 5 (.str []), jc 6 (.bool false)]) (.seq (.reg [jm 7 0, jm 8 1, jn 9 (.call 154 [(.t 7), (.t 8)]), je 10 0 9, je 11 1 9, je 12 2 9, jm 4 10, jm 5 11, jm 6 12]) .ret))
theorem Mh : BX Tryz.prog Tryz.f140 = some ⟨13, k140, [(.tmp 4), (.tmp 5), (.tmp 6)]⟩ := by kernel_rfl
theorem gK (N : Nat) (a0 : List UInt8) (a1 : List UInt8) (r : List UInt8 × List UInt8 × Bool) (h : strings_Cut N a0 a1 = some r) : Sat Tryz.prog 140 AO [.str a0, .str a1] (.tup [.str r.1, .str r.2.1, .bool r.2.2]) AO := by
 refine DT mixed Tryz.func140 Mh (rs := [.str r.1, .str r.2.1, .bool r.2.2]) rfl rfl ?_
 refine AJ ?_
 refine AC ?_
 iterate 3 refine A7 rfl rfl ?_
 refine AJ ?_
 refine AC ?_
 iterate 2 refine A7 rfl rfl ?_
 obtain ⟨x9, Na, h⟩ := AL h
 refine CS rfl (CG (S9 N _ _ _ Na) rfl (.cons A9 (.cons A9 .nil)) rfl rfl rfl) ?_
 iterate 6 refine A7 rfl rfl ?_
 cases AB h
 refine BS ?_
 exact ⟨nofun, rfl, rfl⟩
def k155 : IC := (.seq (.reg [jc 4 (.bool false)]) (.seq (.reg [jm 5 0, jm 6 1, jn 7 (.call 153 [(.t 5), (.t 6)]), jm 4 7]) .ret))
theorem Ma : BX Tryz.prog Tryz.f155 = some ⟨8, k155, [(.tmp 4)]⟩ := by kernel_rfl
theorem QQ (N : Nat) (a0 : List UInt8) (a1 : List UInt8) (r : Bool) (h : strings_HasPrefix N a0 a1 = some r) : Sat Tryz.prog 155 AO [.str a0, .str a1] (.bool r) AO := by
 refine DT mixed Tryz.func155 Ma (rs := [.bool r]) rfl rfl ?_
 refine AJ ?_
 refine AC ?_
 refine A7 rfl rfl ?_
 refine AJ ?_
 refine AC ?_
 iterate 2 refine A7 rfl rfl ?_
 obtain ⟨x7, hx7, h⟩ := AL h
 refine CS rfl (CG (JP N _ _ _ hx7) rfl (.cons A9 (.cons A9 .nil)) rfl rfl rfl) ?_
 refine A7 rfl rfl ?_
 obtain rfl := AB h
 refine BS ?_
 exact ⟨nofun, rfl, rfl⟩
def k157 : IC := (.seq (.reg [jc 4 (.int .u8 0), jc 5 (.bool false)]) (.seq (.seq (.reg [jm 7 1, jm 8 0, jS 9 8, jb .geq 10 7 9]) (.cond (.t 10) (.seq (.reg [jc 4 (.int .u8 0), jc 5 (.bool false)]) .ret) .skip)) (.seq (.reg [jm 11 0, jm 12 1, jm 13 1, ju .add 14 13 1, jn 15 (.slcs (.t 11) (some (.t 12)) (some (.t 14))), jn 16 (.call 78 [(.t 15)]), jn 17 (.idxs (.t 16) (ji 0)), jn 18 (.call 156 [(.c (.str [48, 49, 50, 51, 52, 53, 54, 55, 56, 57, 97, 98, 99, 100, 101, 102])), (.t 17)]), jm 6 18]) (.seq (.reg [jm 19 6, jn 20 (.mm true (.t 19) [(ji 0)]), jn 21 (.cvi .u8 (.t 20)), jm 22 6, ju .geq 23 22 0, jm 4 21, jm 5 23]) .ret))))
theorem Lx : BX Tryz.prog Tryz.f157 = some ⟨24, k157, [(.tmp 4), (.tmp 5)]⟩ := by kernel_rfl
theorem cO (N : Nat) (a0 : List UInt8) (a1 : Int) (r : UInt8 × Bool) (h : U1 N a0 a1 = some r) : Sat Tryz.prog 157 AO [.str a0, .int .i64 a1] (.tup [eb r.1, .bool r.2]) AO := by
 refine DT mixed Tryz.func157 Lx (rs := [eb r.1, .bool r.2]) rfl rfl ?_
 refine AJ ?_
 refine AC ?_
 iterate 2 refine A7 rfl rfl ?_
 iterate 2 refine AJ ?_
 refine AC ?_
 iterate 4 refine A7 rfl rfl ?_
 refine D8 h rfl (fun c1 h => ?_) (fun c1 h => ?_)
 refine AJ ?_
 refine AC ?_
 iterate 2 refine A7 rfl rfl ?_
 cases AB h
 refine BS ?_
 exact ⟨nofun, rfl, rfl⟩
 refine BF ?_
 refine AJ ?_
 refine AC ?_
 iterate 3 refine A7 rfl rfl ?_
 refine A7 (p := .int .i64 (BQ (a1 + (1 : Int)))) rfl rfl ?_
 obtain ⟨N7, SE, h⟩ := AL h
 refine A7 rfl (mM SE rfl rfl rfl) ?_
 obtain ⟨Y4, hx16, h⟩ := AL h
 refine CS rfl (CG (X7 N _ _ hx16) rfl (.cons A9 .nil) rfl rfl rfl) ?_
 obtain ⟨EC, VJ, h⟩ := AL h
 refine A7 rfl (GN VJ rfl rfl) ?_
 obtain ⟨OV, fF, h⟩ := AL h
 refine CS rfl (CG (MM N _ _ _ fF) rfl (.cons A9 (.cons A9 .nil)) rfl rfl rfl) ?_
 refine A7 rfl rfl ?_
 refine AJ ?_
 refine AC ?_
 refine A7 rfl rfl ?_
 refine A7 (p := .int .i64 (mx OV (0 : Int))) rfl rfl ?_
 refine A7 rfl (YD rfl) ?_
 iterate 4 refine A7 rfl rfl ?_
 cases AB h
 refine BS ?_
 exact ⟨nofun, rfl, rfl⟩
end Go.Gp
end
section
set_option linter.unusedVariables false
set_option linter.unusedSimpArgs false
set_option maxRecDepth 4000
set_option maxHeartbeats 4000000
namespace Go.Gp
open Go.Vd Go.RowKit Go.Proofs
def rC : IC := (.seq (.seq (.reg [jm 18 6, jm 19 0, jS 20 19, jb .lss 21 18 20]) (.cond (.t 21) .skip (.exit 0))) (.seq (.block 1 (.seq (.reg [jm 24 0, jm 25 6, jn 26 (.idxs (.t 24) (.t 25)), jm 7 26]) (.seq (.reg [jm 27 7, jn 28 (.bin .eql (.t 27) (.c (.int .u8 32))), jm 5 28]) (.block 2 (.seq (.reg [jm 34 7, jn 35 (.bin .eql (.t 34) (.c (.int .u8 92))), jm 33 35]) (.cond (.t 33) (.seq (.reg [jm 36 6, ju .add 37 36 1, jm 6 37]) (.seq (.seq (.reg [jm 38 6, jm 39 0, jS 40 39, jb .lss 41 38 40, jm 42 41, jt 42 43 (.mov (.t 0)), jt 42 44 (.mov (.t 6)), jt 42 45 (.idxs (.t 43) (.t 44)), jt 42 46 (.call 156 [(.c (.str [44, 43, 34, 92, 60, 62, 59, 35, 61, 32])), (.t 45)]), jt 42 47 (.bin .geq (.t 46) (ji 0)), jp 48 42 47]) (.cond (.t 48) (.seq (.reg [jm 49 4, jm 50 0, jm 51 6, jn 52 (.idxs (.t 50) (.t 51)), jn 53 (.bsl 1 [(.t 52)]), jn 54 (.app 5 1 1 (.t 49) (.t 53)), jm 4 54]) (.exit 1)) .skip)) (.seq (.reg [jm 56 0, jm 57 6, jn 58 (.call 157 [(.t 56), (.t 57)]), jm 55 58, je 59 0 55, je 60 1 55, jm 8 59, jm 9 60]) (.seq (.reg [jm 62 0, jm 63 6, ju .add 64 63 1, jn 65 (.call 157 [(.t 62), (.t 64)]), jm 61 65, je 66 0 61, je 67 1 61, jm 10 66, jm 11 67]) (.seq (.seq (.reg [jm 68 9, jn 69 (.un .not (.t 68)), jm 70 69, jf 70 71 (.mov (.t 11)), jf 70 72 (.un .not (.t 71)), jo 73 70 72]) (.cond (.t 73) (.seq (.reg [jc 2 (.str []), jc 3 (.bool false)]) .ret) .skip)) (.seq (.reg [jm 74 4, jm 75 8, jn 76 (.bin .shl (.t 75) (.c (.int .u64 4))), jm 77 10, jb .or 78 76 77, jn 79 (.bsl 1 [(.t 78)]), jn 80 (.app 5 1 1 (.t 74) (.t 79)), jm 4 80]) (.reg [jm 81 6, ju .add 82 81 1, jm 6 82]))))))) (.seq (.reg [jm 84 7, jn 85 (.call 156 [(.c (.str [44, 43, 34, 92, 60, 62, 59])), (.t 84)]), ju .geq 86 85 0, jm 83 86]) (.cond (.t 83) (.seq (.reg [jc 2 (.str []), jc 3 (.bool false)]) .ret) (.reg [jm 29 4, jm 30 7, jn 31 (.bsl 1 [(.t 30)]), jn 32 (.app 5 1 1 (.t 29) (.t 31)), jm 4 32]))))))))) (.reg [jm 22 6, ju .add 23 22 1, jm 6 23])))
def k141 : IC := (.seq (.reg [jc 2 (.str []), jc 3 (.bool false)]) (.seq (.seq (.reg [jm 12 0, jn 13 (.call 155 [(.t 12), (.c (.str [35]))]), jm 14 13, jf 14 15 (.mov (.t 0)), jf 14 16 (.call 155 [(.t 15), (.c (.str [32]))]), jo 17 14 16]) (.cond (.t 17) (.seq (.reg [jc 2 (.str []), jc 3 (.bool false)]) .ret) .skip)) (.seq (.reg [jc 4 .nl]) (.seq (.reg [jc 5 (.bool false)]) (.seq (.seq (.reg [jc 6 (j6 0)]) (.block 0 (.loop rC))) (.seq (.reg [jm 87 4, jn 88 (.cvb (.t 87)), jm 89 5, jn 90 (.un .not (.t 89)), jm 2 88, jm 3 90]) .ret))))))
theorem Mg : BX Tryz.prog Tryz.f141 = some ⟨91, k141, [(.tmp 2), (.tmp 3)]⟩ := by kernel_rfl
theorem bO (N : Nat) (a0 : List UInt8) : ∀ (n : Nat) (x : Bool × Int × List UInt8) (y : (Bool × List UInt8) ⊕ (List UInt8 × Bool)), H8 N a0 n x = some y → WX Tryz.prog (fun _ => false) (.loop rC) ((fun (x : Bool × Int × List UInt8) => ⟨AY [(0, .str a0), (4, .slr 226404 0 x.2.2.length), (5, .bool x.1), (6, .int .i64 x.2.1)], AY [(226404, ⟨1, true, List.map eb x.2.2⟩)]⟩) x) ((Sum.elim (fun y e s => e = .exit 0 ∧ s = ⟨AY [(4, .slr 226404 0 y.2.length), (5, .bool y.1)], AY [(226404, ⟨1, true, List.map eb y.2⟩)]⟩) (fun y e s => e = .ret ∧ s = ⟨AY [(2, .str y.1), (3, .bool y.2)], AY []⟩) : ((Bool × List UInt8) ⊕ (List UInt8 × Bool)) → Xt → St → Prop) y) := by
 refine EQ _ _ (H8 N a0) (KO N a0) (fun _ => rfl) (fun _ _ => rfl) ?_
 rintro rec ⟨Cf, LG, JR⟩ y h
 iterate 2 refine AJ ?_
 refine AC ?_
 iterate 4 refine A7 rfl rfl ?_
 refine D8 h rfl (fun c4 h => ?_) (fun c4 h => ?_)
 refine BF ?_
 refine QO (fun (x : Bool × Int × List UInt8) => ⟨AY [(0, .str a0), (4, .slr 226404 0 x.2.2.length), (5, .bool x.1), (6, .int .i64 x.2.1)], AY [(226404, ⟨1, true, List.map eb x.2.2⟩)]⟩) (fun x => MI rec x.1 x.2.1 x.2.2 = some y) ?_ ?_
 rintro ⟨Ch, wE, aO⟩ h
 refine AC ?_
 refine A7 rfl rfl ?_
 refine A7 (p := .int .i64 (BQ (wE + (1 : Int)))) rfl rfl ?_
 refine A7 rfl rfl ?_
 exact ⟨(Ch, (BQ (wE + (1 : Int))), aO), (cn rfl rfl rfl rfl), h⟩
 refine C9 ?_
 refine AJ ?_
 refine AC ?_
 iterate 2 refine A7 rfl rfl ?_
 obtain ⟨KZ, oP, h⟩ := AL h
 refine A7 rfl (GN oP rfl rfl) ?_
 refine A7 rfl rfl ?_
 refine AJ ?_
 refine AC ?_
 refine A7 rfl rfl ?_
 refine A7 (p := .bool (((KZ).toNat : Int) == (32 : Int))) rfl rfl ?_
 refine A7 rfl rfl ?_
 refine C9 ?_
 refine AJ ?_
 refine AC ?_
 refine A7 rfl rfl ?_
 refine A7 (p := .bool (((KZ).toNat : Int) == (92 : Int))) rfl rfl ?_
 refine A7 rfl rfl ?_
 refine D8 h rfl (fun c5 h => ?_) (fun c5 h => ?_)
 refine AJ ?_
 refine AC ?_
 refine A7 rfl rfl ?_
 refine A7 (p := .int .i64 (BQ (LG + (1 : Int)))) rfl rfl ?_
 refine A7 rfl rfl ?_
 refine AJ ?_
 obtain ⟨g6, yK, h⟩ := AL h
 refine F9 ⟨AY [(0, .str a0), (4, .slr 226404 0 JR.length), (5, .bool (((KZ).toNat : Int) == (32 : Int))), (6, .int .i64 (BQ (LG + (1 : Int)))), (48, .bool g6)], AY [(226404, ⟨1, true, List.map eb JR⟩)]⟩ ?_ ?_
 have h := yK
 refine AC ?_
 iterate 5 refine A7 rfl rfl ?_
 rcases BO h with ⟨c7, h⟩ | ⟨c7, h⟩
 iterate 2 refine A7 (gy rfl c7) rfl ?_
 obtain ⟨pR, Gh, h⟩ := AL h
 refine A7 (gy rfl c7) (GN Gh rfl rfl) ?_
 obtain ⟨sZ, oM, h⟩ := AL h
 refine CS (gy rfl c7) (CG (MM N _ _ _ oM) rfl (.cons A9 (.cons A9 .nil)) rfl rfl rfl) ?_
 refine A7 (gy rfl c7) rfl ?_
 refine A7 rfl (BA c7 rfl rfl) ?_
 cases AB h
 exact (cn rfl rfl rfl rfl)
 iterate 5 refine BK (gn rfl c7) ?_
 refine A7 rfl (AZ c7 rfl rfl) ?_
 obtain rfl := AB h
 exact (cn rfl rfl rfl rfl)
 clear yK
 refine D8 h rfl (fun c8 h => ?_) (fun c8 h => ?_)
 refine AJ ?_
 refine AC ?_
 iterate 3 refine A7 rfl rfl ?_
 obtain ⟨OU, Gg, h⟩ := AL h
 refine A7 rfl (GN Gg rfl rfl) ?_
 refine CS rfl (SB 225653 rfl rfl rfl) ?_
 obtain ⟨x54, Vp, h⟩ := AL h
 refine UC (f := eb) 225654 Vp rfl rfl rfl rfl rfl (KA rfl (BR (f := eb) (l := [OU]))) rfl rfl rfl rfl ?_
 refine A7 rfl rfl ?_
 refine PU ?_
 exact ⟨((((KZ).toNat : Int) == (32 : Int)), (BQ (LG + (1 : Int))), x54), (CB.trans (rename 225654 226404 rfl rfl) (cn rfl rfl rfl rfl)), h⟩
 refine BF ?_
 refine AJ ?_
 refine AC ?_
 iterate 2 refine A7 rfl rfl ?_
 obtain ⟨Jy, Vm, h⟩ := AL h
 refine CS rfl (CG (cO N _ _ _ Vm) rfl (.cons A9 (.cons A9 .nil)) rfl rfl rfl) ?_
 iterate 5 refine A7 rfl rfl ?_
 refine AJ ?_
 refine AC ?_
 iterate 2 refine A7 rfl rfl ?_
 refine A7 (p := .int .i64 (BQ ((BQ (LG + (1 : Int))) + (1 : Int)))) rfl rfl ?_
 obtain ⟨wC, Ao, h⟩ := AL h
 refine CS rfl (CG (cO N _ _ _ Ao) rfl (.cons A9 (.cons A9 .nil)) rfl rfl rfl) ?_
 iterate 5 refine A7 rfl rfl ?_
 refine AJ ?_
 obtain ⟨g9, hg9, h⟩ := AL h
 refine F9 ⟨AY [(0, .str a0), (4, .slr 226404 0 JR.length), (5, .bool (((KZ).toNat : Int) == (32 : Int))), (6, .int .i64 (BQ (LG + (1 : Int)))), (8, eb Jy.1), (10, eb wC.1), (73, .bool g9)], AY [(226404, ⟨1, true, List.map eb JR⟩)]⟩ ?_ ?_
 have h := hg9
 refine AC ?_
 iterate 3 refine A7 rfl rfl ?_
 rcases BO h with ⟨c10, h⟩ | ⟨c10, h⟩
 iterate 2 refine BK (gn rfl c10) ?_
 refine A7 rfl (BA c10 rfl rfl) ?_
 obtain rfl := AB h
 exact (cn rfl rfl rfl rfl)
 iterate 2 refine A7 (gy rfl c10) rfl ?_
 refine A7 rfl (AZ c10 rfl rfl) ?_
 cases AB h
 exact (cn rfl rfl rfl rfl)
 clear hg9
 refine D8 h rfl (fun c11 h => ?_) (fun c11 h => ?_)
 refine AJ ?_
 refine AC ?_
 iterate 2 refine A7 rfl rfl ?_
 cases AB h
 exact DU (st1 := ⟨AY [(2, .str ([] : List UInt8)), (3, .bool false)], AY []⟩) (cn rfl rfl rfl rfl) ⟨rfl, rfl⟩
 refine BF ?_
 refine AJ ?_
 refine AC ?_
 iterate 2 refine A7 rfl rfl ?_
 refine A7 rfl (Lg (a := Jy.1) (by decide) rfl rfl) ?_
 refine A7 rfl rfl ?_
 refine A7 rfl (Qr (a := (zG Jy.1 4)) (b := wC.1) rfl rfl) ?_
 refine CS rfl (SB 225679 rfl rfl rfl) ?_
 obtain ⟨x80, Va, h⟩ := AL h
 refine UC (f := eb) 225680 Va rfl rfl rfl rfl rfl (KA rfl (BR (f := eb) (l := [((zG Jy.1 4) ||| wC.1)]))) rfl rfl rfl rfl ?_
 refine A7 rfl rfl ?_
 refine AC ?_
 refine A7 rfl rfl ?_
 refine A7 (p := .int .i64 (BQ ((BQ (LG + (1 : Int))) + (1 : Int)))) rfl rfl ?_
 refine A7 rfl rfl ?_
 exact ⟨((((KZ).toNat : Int) == (32 : Int)), (BQ ((BQ (LG + (1 : Int))) + (1 : Int))), x80), (CB.trans (rename 225680 226404 rfl rfl) (cn rfl rfl rfl rfl)), h⟩
 refine AJ ?_
 refine AC ?_
 refine A7 rfl rfl ?_
 obtain ⟨x85, Uz, h⟩ := AL h
 refine CS rfl (CG (MM N _ _ _ Uz) rfl (.cons A9 (.cons A9 .nil)) rfl rfl rfl) ?_
 iterate 2 refine A7 rfl rfl ?_
 refine D8 h rfl (fun c12 h => ?_) (fun c12 h => ?_)
 refine AJ ?_
 refine AC ?_
 iterate 2 refine A7 rfl rfl ?_
 cases AB h
 exact DU (st1 := ⟨AY [(2, .str ([] : List UInt8)), (3, .bool false)], AY []⟩) (cn rfl rfl rfl rfl) ⟨rfl, rfl⟩
 refine AC ?_
 iterate 2 refine A7 rfl rfl ?_
 refine CS rfl (SB 225631 rfl rfl rfl) ?_
 obtain ⟨x32, hx32, h⟩ := AL h
 refine UC (f := eb) 225632 hx32 rfl rfl rfl rfl rfl (KA rfl (BR (f := eb) (l := [KZ]))) rfl rfl rfl rfl ?_
 refine A7 rfl rfl ?_
 exact ⟨((((KZ).toNat : Int) == (32 : Int)), LG, x32), (CB.trans (rename 225632 226404 rfl rfl) (cn rfl rfl rfl rfl)), h⟩
 cases AB h
 exact CW (st1 := ⟨AY [(4, .slr 226404 0 JR.length), (5, .bool Cf)], AY [(226404, ⟨1, true, List.map eb JR⟩)]⟩) (cn rfl rfl rfl rfl) ⟨rfl, rfl⟩
theorem gL (N : Nat) (a0 : List UInt8) (r : List UInt8 × Bool) (h : UQ N a0 = some r) : Sat Tryz.prog 141 AO [.str a0] (.tup [.str r.1, .bool r.2]) AO := by
 refine DT mixed Tryz.func141 Mg (rs := [.str r.1, .bool r.2]) rfl rfl ?_
 refine AJ ?_
 refine AC ?_
 iterate 2 refine A7 rfl rfl ?_
 refine AJ ?_
 obtain ⟨g1, hg1, h⟩ := AL h
 refine F9 ⟨AY [(0, .str a0), (17, .bool g1)], AY []⟩ ?_ ?_
 have h := hg1
 refine AC ?_
 refine A7 rfl rfl ?_
 obtain ⟨MF, aV, h⟩ := AL h
 refine CS rfl (CG (QQ N _ _ _ aV) rfl (.cons A9 (.cons A9 .nil)) rfl rfl rfl) ?_
 refine A7 rfl rfl ?_
 rcases BO h with ⟨c2, h⟩ | ⟨c2, h⟩
 iterate 2 refine BK (gn rfl c2) ?_
 refine A7 rfl (BA c2 rfl rfl) ?_
 obtain rfl := AB h
 exact (cn rfl rfl rfl rfl)
 refine A7 (gy rfl c2) rfl ?_
 obtain ⟨Y4, hx16, h⟩ := AL h
 refine CS (gy rfl c2) (CG (QQ N _ _ _ hx16) rfl (.cons A9 (.cons A9 .nil)) rfl rfl rfl) ?_
 refine A7 rfl (AZ c2 rfl rfl) ?_
 obtain rfl := AB h
 exact (cn rfl rfl rfl rfl)
 clear hg1
 refine D8 h rfl (fun c3 h => ?_) (fun c3 h => ?_)
 refine AJ ?_
 refine AC ?_
 iterate 2 refine A7 rfl rfl ?_
 cases AB h
 refine BS ?_
 exact ⟨nofun, rfl, rfl⟩
 refine BF ?_
 refine AJ ?_
 refine AC ?_
 refine A7 rfl rfl ?_
 refine AJ ?_
 refine AC ?_
 refine A7 rfl rfl ?_
 iterate 2 refine AJ ?_
 refine AC ?_
 refine A7 rfl rfl ?_
 refine C9 ?_
 obtain ⟨y13, hy13, h⟩ := AL h
 refine PT (bO N a0 N _ _ hy13) (CB.trans (ZZ 4 226404 1 true rfl rfl rfl) (cn rfl rfl rfl rfl)) ?_
 clear hy13
 rcases y13 with y13 | y13
 rintro e s ⟨rfl, rfl⟩
 refine AJ ?_
 refine AC ?_
 refine A7 rfl rfl ?_
 refine A7 rfl (VH (l := y13.2) rfl rfl (BR (f := eb) (l := y13.2))) ?_
 iterate 4 refine A7 rfl rfl ?_
 cases AB h
 refine BS ?_
 exact ⟨nofun, rfl, rfl⟩
 rintro e s ⟨rfl, rfl⟩
 cases AB h
 exact ⟨nofun, rfl, rfl⟩
end Go.Gp
end
section
set_option linter.unusedVariables false
set_option linter.unusedSimpArgs false
set_option maxRecDepth 4000
namespace Go.Gp
open Go.Vd Go.RowKit Go.Proofs
def yF : IC := (.seq (.reg [jb .lss 16 15 14]) (.seq (.cond (.t 16) .skip (.exit 0)) (.seq (.block 1 (.seq (.reg [jx 17 1 13 15, jl 18 1 17, jm 6 18]) (.seq (.reg [jm 20 6, jn 21 (.call 140 [(.t 20), (.c (.str [61]))]), jm 19 21, je 22 0 19, je 23 1 19, je 24 2 19, jm 7 22, jm 8 23, jm 9 24]) (.seq (.reg [jm 26 8, jn 27 (.call 141 [(.t 26)]), jm 25 27, je 28 0 25, je 29 1 25, jm 10 28, jm 11 29]) (.seq (.seq (.reg [jm 30 9, jn 31 (.un .not (.t 30)), jm 32 31, jf 32 33 (.mov (.t 11)), jf 32 34 (.un .not (.t 33)), jo 35 32 34, jm 36 35, jf 36 37 (.mov (.t 4)), jf 36 38 (.len false (.t 37)), jf 36 39 (.bin .gtr (.t 38) (ji 4)), jo 40 36 39]) (.cond (.t 40) (.seq (.reg [jc 2 .nl, jc 3 (j6 15)]) .ret) .skip)) (.reg [jm 41 4, jm 42 7, jn 43 (.call 78 [(.t 42)]), jm 44 10, jn 45 (.build [(.str []), (.str [])] [(0, (1, (.t 43))), (1, (1, (.t 44)))]), jn 46 (.bsl 2 [(.t 45)]), jn 47 (.app 41 2 32 (.t 41) (.t 46)), jm 4 47])))))) (.reg [ju .add 48 15 1, jm 15 48]))))
def k121 : IC := (.seq (.reg [jc 2 .nl, jc 3 (j6 0)]) (.seq (.reg [jc 4 .nl]) (.seq (.seq (.reg [jm 12 0, jn 13 (.call 120 [(.t 12), (.c (.int .u8 43))]), jL 14 13, jc 15 (j6 0)]) (.block 0 (.loop yF))) (.seq (.seq (.reg [jm 49 4, jn 50 (.call 54 [(.t 49)]), jn 51 (.un .not (.t 50))]) (.cond (.t 51) (.seq (.reg [jc 2 .nl, jc 3 (j6 15)]) .ret) .skip)) (.seq (.reg [jm 52 4, jm 2 52, jc 3 (j6 0)]) .ret)))))
theorem Mk : BX Tryz.prog Tryz.f121 = some ⟨53, k121, [(.tmp 2), (.tmp 3)]⟩ := by kernel_rfl
theorem dX (N : Nat) (MF : List (List UInt8)) : ∀ (n : Nat) (x : Int × List AP) (y : (List AP) ⊕ (List AP × Int)), JS N MF n x = some y → WX Tryz.prog (fun _ => false) (.loop yF) ((fun (x : Int × List AP) => ⟨AY [(4, .slr 194404 0 x.2.length), (13, .sl 1 (List.map PV.str MF)), (14, .int .i64 (MF.length : Int)), (15, .int .i64 x.1)], AY [(194404, ⟨2, true, List.map AV x.2⟩)]⟩) x) ((Sum.elim (fun y e s => e = .exit 0 ∧ s = ⟨AY [(4, .slr 194404 0 y.length)], AY [(194404, ⟨2, true, List.map AV y⟩)]⟩) (fun y e s => e = .ret ∧ s = ⟨AY [(2, .sl 2 (List.map AV y.1)), (3, .int .i64 y.2)], AY []⟩) : ((List AP) ⊕ (List AP × Int)) → Xt → St → Prop) y) := by
 refine EQ _ _ (JS N MF) (O5 N MF) (fun _ => rfl) (fun _ _ => rfl) ?_
 rintro rec ⟨TM, PP⟩ y h
 refine AJ ?_
 refine AC ?_
 refine A7 rfl rfl ?_
 refine AJ ?_
 refine D8 h rfl (fun c1 h => ?_) (fun c1 h => ?_)
 refine BF ?_
 refine AJ ?_
 refine C9 ?_
 refine AJ ?_
 refine AC ?_
 obtain ⟨EC, VJ, h⟩ := AL h
 refine A7 rfl (DK (cs := [.str EC]) VJ rfl rfl rfl) ?_
 iterate 2 refine A7 rfl rfl ?_
 refine AJ ?_
 refine AC ?_
 refine A7 rfl rfl ?_
 obtain ⟨V3, YG, h⟩ := AL h
 refine CS rfl (CG (gK N _ _ _ YG) rfl (.cons A9 (.cons A9 .nil)) rfl rfl rfl) ?_
 iterate 7 refine A7 rfl rfl ?_
 refine AJ ?_
 refine AC ?_
 refine A7 rfl rfl ?_
 obtain ⟨x27, hx27, h⟩ := AL h
 refine CS rfl (CG (gL N _ _ hx27) rfl (.cons A9 .nil) rfl rfl rfl) ?_
 iterate 5 refine A7 rfl rfl ?_
 refine AJ ?_
 obtain ⟨g2, hg2, h⟩ := AL h
 refine F9 ⟨AY [(4, .slr 194404 0 PP.length), (7, .str V3.1), (10, .str x27.1), (13, .sl 1 (List.map PV.str MF)), (14, .int .i64 (MF.length : Int)), (15, .int .i64 TM), (40, .bool g2)], AY [(194404, ⟨2, true, List.map AV PP⟩)]⟩ ?_ ?_
 have h := hg2
 refine AC ?_
 iterate 3 refine A7 rfl rfl ?_
 rcases BO h with ⟨c3, h⟩ | ⟨c3, h⟩
 iterate 2 refine BK (gn rfl c3) ?_
 refine A7 rfl (BA c3 rfl rfl) ?_
 refine A7 rfl rfl ?_
 iterate 3 refine BK rfl ?_
 refine A7 rfl rfl ?_
 obtain rfl := AB h
 exact (cn rfl rfl rfl rfl)
 iterate 2 refine A7 (gy rfl c3) rfl ?_
 refine A7 rfl (AZ c3 rfl rfl) ?_
 refine A7 rfl rfl ?_
 rcases BO h with ⟨c4, h⟩ | ⟨c4, h⟩
 iterate 3 refine BK (gn rfl c4) ?_
 refine A7 rfl (BA c4 rfl rfl) ?_
 obtain rfl := AB h
 exact (cn rfl rfl rfl rfl)
 iterate 3 refine A7 (gy rfl c4) rfl ?_
 refine A7 rfl (AZ c4 rfl rfl) ?_
 cases AB h
 exact (cn rfl rfl rfl rfl)
 clear hg2
 refine D8 h rfl (fun c5 h => ?_) (fun c5 h => ?_)
 refine AJ ?_
 refine AC ?_
 iterate 2 refine A7 rfl rfl ?_
 cases AB h
 exact DU (st1 := ⟨AY [(2, .sl 2 (List.map AV [])), (3, .int .i64 15)], AY []⟩) (CB.trans (KN 2 (FV 2) rfl) (cn rfl rfl rfl rfl)) ⟨rfl, rfl⟩
 refine BF ?_
 refine AC ?_
 iterate 2 refine A7 rfl rfl ?_
 obtain ⟨x43, Vr, h⟩ := AL h
 refine CS rfl (CG (X7 N _ _ Vr) rfl (.cons A9 .nil) rfl rfl rfl) ?_
 refine A7 rfl rfl ?_
 refine A7 (p := .agg [.str x43, .str x27.1]) rfl rfl ?_
 refine CS rfl (SB 193646 rfl rfl rfl) ?_
 obtain ⟨dV, oL, h⟩ := AL h
 refine UC (f := AV) 193647 oL rfl rfl rfl rfl rfl (KA rfl (BR (f := AV) (l := [(⟨x43, x27.1⟩ : AP)]))) rfl rfl rfl rfl ?_
 refine A7 rfl rfl ?_
 refine AC ?_
 refine A7 (p := .int .i64 (BQ (TM + (1 : Int)))) rfl rfl ?_
 refine A7 rfl rfl ?_
 exact ⟨((BQ (TM + (1 : Int))), dV), (CB.trans (rename 193647 194404 rfl rfl) (cn rfl rfl rfl rfl)), h⟩
 obtain rfl := AB h
 exact CW (st1 := ⟨AY [(4, .slr 194404 0 PP.length)], AY [(194404, ⟨2, true, List.map AV PP⟩)]⟩) (cn rfl rfl rfl rfl) ⟨rfl, rfl⟩
theorem gM (N : Nat) (a0 : List UInt8) (r : List AP × Int) (h : UR N a0 = some r) : Sat Tryz.prog 121 AO [.str a0] (.tup [.sl 2 (List.map AV r.1), .int .i64 r.2]) AO := by
 refine DT mixed Tryz.func121 Mk (rs := [.sl 2 (List.map AV r.1), .int .i64 r.2]) rfl rfl ?_
 refine AJ ?_
 refine AC ?_
 iterate 2 refine A7 rfl rfl ?_
 refine AJ ?_
 refine AC ?_
 refine A7 rfl rfl ?_
 iterate 2 refine AJ ?_
 refine AC ?_
 refine A7 rfl rfl ?_
 obtain ⟨MF, aV, h⟩ := AL h
 refine CS rfl (CG (iU N _ _ _ aV) rfl (.cons A9 (.cons A9 .nil)) rfl rfl rfl) ?_
 refine A7 rfl (BV rfl) ?_
 refine A7 rfl rfl ?_
 refine C9 ?_
 obtain ⟨y6, tC, h⟩ := AL h
 refine PT (dX N MF N _ _ tC) (CB.trans (ZZ 4 194404 2 true rfl rfl rfl) (cn rfl rfl rfl rfl)) ?_
 clear tC
 rcases y6 with y6 | y6
 rintro e s ⟨rfl, rfl⟩
 iterate 2 refine AJ ?_
 refine AC ?_
 refine A7 rfl rfl ?_
 obtain ⟨x50, hx50, h⟩ := AL h
 refine CS rfl (CG (cZ N _ _ hx50) rfl (.cons (ZG rfl (BR (f := AV) (l := y6))) .nil) rfl rfl rfl) ?_
 refine A7 rfl rfl ?_
 refine D8 h rfl (fun c7 h => ?_) (fun c7 h => ?_)
 refine AJ ?_
 refine AC ?_
 iterate 2 refine A7 rfl rfl ?_
 cases AB h
 refine DU (st1 := ⟨AY [(2, .sl 2 (List.map AV [])), (3, .int .i64 15)], AY []⟩) (CB.trans (KN 2 (FV 2) rfl) (cn rfl rfl rfl rfl)) ?_
 exact ⟨nofun, rfl, rfl⟩
 refine BF ?_
 refine AJ ?_
 refine AC ?_
 iterate 3 refine A7 rfl rfl ?_
 cases AB h
 refine DU (st1 := ⟨AY [(2, .sl 2 (List.map AV y6)), (3, .int .i64 0)], AY []⟩) (CB.trans (Vd.freeze 194404 _ rfl rfl rfl) (CB.trans (KN 2 (GQ (congrArg (PV.sl 2) (BR (f := AV) (l := y6)))) rfl) (cn rfl rfl rfl rfl))) ?_
 exact ⟨nofun, rfl, rfl⟩
 rintro e s ⟨rfl, rfl⟩
 cases AB h
 exact ⟨nofun, rfl, rfl⟩
def xD : IC := (.seq (.reg [jb .lss 15 14 13]) (.seq (.cond (.t 15) .skip (.exit 0)) (.seq (.block 1 (.seq (.reg [jx 16 1 12 14, jl 17 1 16, jm 6 17]) (.seq (.reg [jm 19 6, jn 20 (.call 121 [(.t 19)]), jm 18 20, je 21 0 18, je 22 1 18, jm 7 21, jm 8 22]) (.seq (.seq (.reg [jm 23 8, ju .neq 24 23 0, jm 25 24, jf 25 26 (.mov (.t 4)), jf 25 27 (.len false (.t 26)), jf 25 28 (.bin .eql (.t 27) (ji 8)), jo 29 25 28]) (.cond (.t 29) (.seq (.reg [jc 2 .nl, jc 3 (j6 15)]) .ret) .skip)) (.reg [jm 30 4, jm 31 7, jn 32 (.bsl 1 [(.t 31)]), jn 33 (.app 25 1 24 (.t 30) (.t 32)), jm 4 33]))))) (.reg [ju .add 34 14 1, jm 14 34]))))
def k96 : IC := (.seq (.reg [jc 2 .nl, jc 3 (j6 0)]) (.seq (.seq (.reg [jm 9 0, jn 10 (.bin .eql (.t 9) (.c (.str [])))]) (.cond (.t 10) (.seq (.reg [jc 2 .nl, jc 3 (j6 0)]) .ret) .skip)) (.seq (.reg [jc 4 .nl]) (.seq (.seq (.reg [jm 11 0, jn 12 (.call 120 [(.t 11), (.c (.int .u8 44))]), jL 13 12, jc 14 (j6 0)]) (.block 0 (.loop xD))) (.seq (.reg [jm 35 4, jm 2 35, jc 3 (j6 0)]) .ret)))))
theorem Rc : BX Tryz.prog Tryz.f96 = some ⟨36, k96, [(.tmp 2), (.tmp 3)]⟩ := by kernel_rfl
theorem iH (N : Nat) (IP : List (List UInt8)) : ∀ (n : Nat) (x : Int × List (List AP)) (y : (List (List AP)) ⊕ (List (List AP) × Int)), M0 N IP n x = some y → WX Tryz.prog (fun _ => false) (.loop xD) ((fun (x : Int × List (List AP)) => ⟨AY [(4, .slr 154404 0 x.2.length), (12, .sl 1 (List.map PV.str IP)), (13, .int .i64 (IP.length : Int)), (14, .int .i64 x.1)], AY [(154404, ⟨1, true, List.map (es 2 AV) x.2⟩)]⟩) x) ((Sum.elim (fun y e s => e = .exit 0 ∧ s = ⟨AY [(4, .slr 154404 0 y.length)], AY [(154404, ⟨1, true, List.map (es 2 AV) y⟩)]⟩) (fun y e s => e = .ret ∧ s = ⟨AY [(2, .sl 1 (List.map (es 2 AV) y.1)), (3, .int .i64 y.2)], AY []⟩) : ((List (List AP)) ⊕ (List (List AP) × Int)) → Xt → St → Prop) y) := by
 refine EQ _ _ (M0 N IP) (QF N IP) (fun _ => rfl) (fun _ _ => rfl) ?_
 rintro rec ⟨aL, NK⟩ y h
 refine AJ ?_
 refine AC ?_
 refine A7 rfl rfl ?_
 refine AJ ?_
 refine D8 h rfl (fun c2 h => ?_) (fun c2 h => ?_)
 refine BF ?_
 refine AJ ?_
 refine C9 ?_
 refine AJ ?_
 refine AC ?_
 obtain ⟨Y4, hx16, h⟩ := AL h
 refine A7 rfl (DK (cs := [.str Y4]) hx16 rfl rfl rfl) ?_
 iterate 2 refine A7 rfl rfl ?_
 refine AJ ?_
 refine AC ?_
 refine A7 rfl rfl ?_
 obtain ⟨x20, aU, h⟩ := AL h
 refine CS rfl (CG (gM N _ _ aU) rfl (.cons A9 .nil) rfl rfl rfl) ?_
 iterate 5 refine A7 rfl rfl ?_
 refine AJ ?_
 obtain ⟨g3, hg3, h⟩ := AL h
 refine F9 ⟨AY [(4, .slr 154404 0 NK.length), (7, .sl 2 (List.map AV x20.1)), (12, .sl 1 (List.map PV.str IP)), (13, .int .i64 (IP.length : Int)), (14, .int .i64 aL), (29, .bool g3)], AY [(154404, ⟨1, true, List.map (es 2 AV) NK⟩)]⟩ ?_ ?_
 have h := hg3
 refine AC ?_
 iterate 3 refine A7 rfl rfl ?_
 rcases BO h with ⟨c4, h⟩ | ⟨c4, h⟩
 iterate 3 refine BK (gn rfl c4) ?_
 refine A7 rfl (BA c4 rfl rfl) ?_
 obtain rfl := AB h
 exact (cn rfl rfl rfl rfl)
 iterate 3 refine A7 (gy rfl c4) rfl ?_
 refine A7 rfl (AZ c4 rfl rfl) ?_
 cases AB h
 exact (cn rfl rfl rfl rfl)
 clear hg3
 refine D8 h rfl (fun c5 h => ?_) (fun c5 h => ?_)
 refine AJ ?_
 refine AC ?_
 iterate 2 refine A7 rfl rfl ?_
 cases AB h
 exact DU (st1 := ⟨AY [(2, .sl 1 (List.map (es 2 AV) [])), (3, .int .i64 15)], AY []⟩) (CB.trans (KN 2 (FV 1) rfl) (cn rfl rfl rfl rfl)) ⟨rfl, rfl⟩
 refine BF ?_
 refine AC ?_
 iterate 2 refine A7 rfl rfl ?_
 refine CS rfl (SB 153632 rfl rfl rfl) ?_
 obtain ⟨Kj, Gi, h⟩ := AL h
 refine UC (f := (es 2 AV)) 153633 Gi rfl rfl rfl rfl rfl (KA rfl (BR (f := (es 2 AV)) (l := [x20.1]))) rfl rfl rfl rfl ?_
 refine A7 rfl rfl ?_
 refine AC ?_
 refine A7 (p := .int .i64 (BQ (aL + (1 : Int)))) rfl rfl ?_
 refine A7 rfl rfl ?_
 exact ⟨((BQ (aL + (1 : Int))), Kj), (CB.trans (rename 153633 154404 rfl rfl) (cn rfl rfl rfl rfl)), h⟩
 obtain rfl := AB h
 exact CW (st1 := ⟨AY [(4, .slr 154404 0 NK.length)], AY [(154404, ⟨1, true, List.map (es 2 AV) NK⟩)]⟩) (cn rfl rfl rfl rfl) ⟨rfl, rfl⟩
theorem nV (N : Nat) (a0 : List UInt8) (r : List (List AP) × Int) (h : dJ N a0 = some r) : Sat Tryz.prog 96 AO [.str a0] (.tup [.sl 1 (List.map (es 2 AV) r.1), .int .i64 r.2]) AO := by
 refine DT mixed Tryz.func96 Rc (rs := [.sl 1 (List.map (es 2 AV) r.1), .int .i64 r.2]) rfl rfl ?_
 refine AJ ?_
 refine AC ?_
 iterate 2 refine A7 rfl rfl ?_
 iterate 2 refine AJ ?_
 refine AC ?_
 iterate 2 refine A7 rfl rfl ?_
 refine D8 h rfl (fun c1 h => ?_) (fun c1 h => ?_)
 refine AJ ?_
 refine AC ?_
 iterate 2 refine A7 rfl rfl ?_
 cases AB h
 refine DU (st1 := ⟨AY [(2, .sl 1 (List.map (es 2 AV) [])), (3, .int .i64 0)], AY []⟩) (CB.trans (KN 2 (FV 1) rfl) (cn rfl rfl rfl rfl)) ?_
 exact ⟨nofun, rfl, rfl⟩
 refine BF ?_
 refine AJ ?_
 refine AC ?_
 refine A7 rfl rfl ?_
 iterate 2 refine AJ ?_
 refine AC ?_
 refine A7 rfl rfl ?_
 obtain ⟨IP, YI, h⟩ := AL h
 refine CS rfl (CG (iU N _ _ _ YI) rfl (.cons A9 (.cons A9 .nil)) rfl rfl rfl) ?_
 refine A7 rfl (BV rfl) ?_
 refine A7 rfl rfl ?_
 refine C9 ?_
 obtain ⟨y6, tC, h⟩ := AL h
 refine PT (iH N IP N _ _ tC) (CB.trans (ZZ 4 154404 1 true rfl rfl rfl) (cn rfl rfl rfl rfl)) ?_
 clear tC
 rcases y6 with y6 | y6
 rintro e s ⟨rfl, rfl⟩
 refine AJ ?_
 refine AC ?_
 iterate 3 refine A7 rfl rfl ?_
 cases AB h
 refine DU (st1 := ⟨AY [(2, .sl 1 (List.map (es 2 AV) y6)), (3, .int .i64 0)], AY []⟩) (CB.trans (Vd.freeze 154404 _ rfl rfl rfl) (CB.trans (KN 2 (GQ (congrArg (PV.sl 1) (BR (f := (es 2 AV)) (l := y6)))) rfl) (cn rfl rfl rfl rfl))) ?_
 exact ⟨nofun, rfl, rfl⟩
 rintro e s ⟨rfl, rfl⟩
 cases AB h
 exact ⟨nofun, rfl, rfl⟩
def k77 : IC := (.seq (.reg [jc 4 (.bool false)]) (.seq (.seq (.reg [jm 7 0]) (.block 0 (.seq (.block 4 (.seq (.block 3 (.seq (.block 2 (.seq (.block 1 (.seq (.seq (.seq (.reg [ju .eql 9 7 1, jm 8 9]) (.cond (.t 8) (.exit 1) .skip)) (.seq (.seq (.reg [ju .eql 11 7 2, jm 10 11]) (.cond (.t 10) (.exit 2) .skip)) (.seq (.seq (.reg [ju .eql 13 7 3, jm 12 13]) (.cond (.t 12) (.exit 3) .skip)) (.seq (.reg [ju .eql 15 7 5, jm 14 15]) (.cond (.t 14) (.exit 4) .skip))))) (.exit 0))) (.seq (.reg [jm 16 1, jn 17 (.call 93 [(.t 16), (.c (.str [32]))]), jn 18 (.bin .eql (.t 17) (.c (.str [])))]) (.cond (.t 18) (.seq (.reg [jc 4 (.bool false)]) .ret) .skip)))) (.seq (.seq (.reg [jm 19 1, jn 20 (.call 94 [(.t 19)]), jm 4 20]) .ret) (.exit 0)))) (.seq (.seq (.reg [jm 21 1, jn 22 (.call 95 [(.t 21)]), jm 4 22]) .ret) (.exit 0)))) (.seq (.seq (.reg [jm 24 1, jn 25 (.call 96 [(.t 24)]), jm 23 25, je 26 0 23, je 27 1 23, jm 5 26, jm 6 27]) (.seq (.reg [jm 28 6, ju .eql 29 28 0, jm 4 29]) .ret)) (.exit 0))))) (.seq (.reg [jc 4 (.bool true)]) .ret)))
theorem Rw : BX Tryz.prog Tryz.f77 = some ⟨30, k77, [(.tmp 4)]⟩ := by kernel_rfl
theorem iP (N : Nat) (a0 : Int) (a1 : List UInt8) (r : Bool) (h : WZ N a0 a1 = some r) : Sat Tryz.prog 77 AO [.int .i64 a0, .str a1] (.bool r) AO := by
 refine DT mixed Tryz.func77 Rw (rs := [.bool r]) rfl rfl ?_
 refine AJ ?_
 refine AC ?_
 refine A7 rfl rfl ?_
 iterate 2 refine AJ ?_
 refine AC ?_
 refine A7 rfl rfl ?_
 refine C9 ?_
 refine AJ ?_
 refine C9 ?_
 refine AJ ?_
 refine C9 ?_
 refine QO (fun (x : Unit) => ⟨AY [(1, .str a1)], AY []⟩) (fun x => Q0 a1 N = some r) ?_ ?_
 rintro ⟨⟩ h
 iterate 2 refine AJ ?_
 refine AC ?_
 refine A7 rfl rfl ?_
 obtain ⟨x20, aU, h⟩ := AL h
 refine CS rfl (CG (eO N _ _ aU) rfl (.cons A9 .nil) rfl rfl rfl) ?_
 refine A7 rfl rfl ?_
 obtain rfl := AB h
 refine BS ?_
 exact ⟨nofun, rfl, rfl⟩
 refine C9 ?_
 refine AJ ?_
 refine C9 ?_
 iterate 3 refine AJ ?_
 refine AC ?_
 iterate 2 refine A7 rfl rfl ?_
 refine D8 h rfl (fun c1 h => ?_) (fun c1 h => ?_)
 refine PU ?_
 refine AJ ?_
 refine AC ?_
 refine A7 rfl rfl ?_
 obtain ⟨EC, VJ, h⟩ := AL h
 refine CS rfl (CG (eH N _ _ _ VJ) rfl (.cons A9 (.cons A9 .nil)) rfl rfl rfl) ?_
 refine A7 rfl rfl ?_
 refine D8 h rfl (fun c2 h => ?_) (fun c2 h => ?_)
 refine AJ ?_
 refine AC ?_
 refine A7 rfl rfl ?_
 obtain rfl := AB h
 refine BS ?_
 exact ⟨nofun, rfl, rfl⟩
 refine BF ?_
 exact ⟨(), (cn rfl rfl rfl rfl), h⟩
 refine BF ?_
 iterate 2 refine AJ ?_
 refine AC ?_
 iterate 2 refine A7 rfl rfl ?_
 refine D8 h rfl (fun c3 h => ?_) (fun c3 h => ?_)
 refine PU ?_
 exact ⟨(), (cn rfl rfl rfl rfl), h⟩
 refine BF ?_
 iterate 2 refine AJ ?_
 refine AC ?_
 iterate 2 refine A7 rfl rfl ?_
 refine D8 h rfl (fun c4 h => ?_) (fun c4 h => ?_)
 refine PU ?_
 iterate 2 refine AJ ?_
 refine AC ?_
 refine A7 rfl rfl ?_
 obtain ⟨WO, YF, h⟩ := AL h
 refine CS rfl (CG (eP N _ _ YF) rfl (.cons A9 .nil) rfl rfl rfl) ?_
 refine A7 rfl rfl ?_
 obtain rfl := AB h
 refine BS ?_
 exact ⟨nofun, rfl, rfl⟩
 refine BF ?_
 refine AJ ?_
 refine AC ?_
 iterate 2 refine A7 rfl rfl ?_
 refine D8 h rfl (fun c5 h => ?_) (fun c5 h => ?_)
 refine PU ?_
 iterate 2 refine AJ ?_
 refine AC ?_
 refine A7 rfl rfl ?_
 obtain ⟨x25, hx25, h⟩ := AL h
 refine CS rfl (CG (nV N _ _ hx25) rfl (.cons A9 .nil) rfl rfl rfl) ?_
 iterate 5 refine A7 rfl rfl ?_
 refine AJ ?_
 refine AC ?_
 iterate 3 refine A7 rfl rfl ?_
 cases AB h
 refine BS ?_
 exact ⟨nofun, rfl, rfl⟩
 refine BF ?_
 refine PU ?_
 refine AJ ?_
 refine AC ?_
 refine A7 rfl rfl ?_
 obtain rfl := AB h
 refine BS ?_
 exact ⟨nofun, rfl, rfl⟩
def k57 : IC := (.seq (.reg [jc 4 (j6 0)]) (.seq (.reg [jm 8 0, jn 9 (.call 58 [(.t 8)]), jm 7 9, je 10 0 7, je 11 1 7, jn 5 (.box 90 (.c (.agg [(.str []), (j6 0), (.bool false)]))), js 3 5 10, jm 6 11]) (.seq (.block 0 (.seq (.reg [jm 13 6, jn 14 (.un .not (.t 13)), jm 12 14]) (.cond (.t 12) (.seq (.reg [jc 4 (j6 16)]) .ret) (.seq (.reg [jm 16 1, jn 17 (.bin .eql (.t 16) (.c (.str []))), jm 18 17, jf 18 19 (.mov (.t 1)), jf 18 20 (.len true (.t 19)), jf 18 21 (.bin .gtr (.t 20) (ji 60)), jo 22 18 21, jm 23 22, jf 23 24 (.fda 1 (.t 5)), jf 23 25 (.load 1 false (.t 24)), jf 23 26 (.mov (.t 1)), jf 23 27 (.call 77 [(.t 25), (.t 26)]), jf 23 28 (.un .not (.t 27)), jo 29 23 28, jm 15 29]) (.cond (.t 15) (.seq (.reg [jc 4 (j6 17)]) .ret) .skip))))) (.seq (.reg [jc 4 (j6 0)]) .ret))))
theorem Su : BX Tryz.prog Tryz.f57 = some ⟨30, k57, [(.tmp 4)]⟩ := by kernel_rfl
theorem W9 (N : Nat) (a0 : List UInt8) (a1 : List UInt8) (r : Int) (h : Q3 N a0 a1 = some r) : Sat Tryz.prog 57 AO [.str a0, .str a1] (.int .i64 r) AO := by
 refine DT mixed Tryz.func57 Su (rs := [.int .i64 r]) rfl rfl ?_
 refine AJ ?_
 refine AC ?_
 refine A7 rfl rfl ?_
 refine AJ ?_
 refine AC ?_
 refine A7 rfl rfl ?_
 obtain ⟨x9, Na, h⟩ := AL h
 refine CS rfl (CG (XL N _ _ Na) rfl (.cons A9 .nil) rfl rfl rfl) ?_
 iterate 3 refine A7 rfl rfl ?_
 refine CS rfl (FZ 91205 rfl rfl rfl rfl rfl) ?_
 refine F3 (e' := CJ x9.1) rfl rfl rfl rfl rfl rfl rfl rfl nofun rfl ?_
 refine A7 rfl rfl ?_
 refine AJ ?_
 refine C9 ?_
 refine AJ ?_
 refine AC ?_
 iterate 3 refine A7 rfl rfl ?_
 refine D8 h rfl (fun c1 h => ?_) (fun c1 h => ?_)
 refine AJ ?_
 refine AC ?_
 refine A7 rfl rfl ?_
 obtain rfl := AB h
 refine BS ?_
 exact ⟨nofun, rfl, rfl⟩
 obtain ⟨g2, hg2, h⟩ := AL h
 refine F9 ⟨AY [(15, .bool g2)], AY []⟩ ?_ ?_
 have h := hg2
 refine AC ?_
 iterate 3 refine A7 rfl rfl ?_
 rcases BO h with ⟨c3, h⟩ | ⟨c3, h⟩
 iterate 3 refine BK (gn rfl c3) ?_
 refine A7 rfl (BA c3 rfl rfl) ?_
 refine A7 rfl rfl ?_
 iterate 5 refine BK rfl ?_
 iterate 2 refine A7 rfl rfl ?_
 obtain rfl := AB h
 exact (cn rfl rfl rfl rfl)
 iterate 3 refine A7 (gy rfl c3) rfl ?_
 refine A7 rfl (AZ c3 rfl rfl) ?_
 refine A7 rfl rfl ?_
 rcases BO h with ⟨c4, h⟩ | ⟨c4, h⟩
 iterate 5 refine BK (gn rfl c4) ?_
 refine A7 rfl (BA c4 rfl rfl) ?_
 refine A7 rfl rfl ?_
 obtain rfl := AB h
 exact (cn rfl rfl rfl rfl)
 iterate 3 refine A7 (gy rfl c4) rfl ?_
 obtain ⟨x27, hx27, h⟩ := AL h
 refine CS (gy rfl c4) (CG (iP N _ _ _ hx27) rfl (.cons A9 (.cons A9 .nil)) rfl rfl rfl) ?_
 refine A7 (gy rfl c4) rfl ?_
 refine A7 rfl (AZ c4 rfl rfl) ?_
 refine A7 rfl rfl ?_
 cases AB h
 exact (cn rfl rfl rfl rfl)
 clear hg2
 refine D8 h rfl (fun c5 h => ?_) (fun c5 h => ?_)
 refine AJ ?_
 refine AC ?_
 refine A7 rfl rfl ?_
 obtain rfl := AB h
 refine BS ?_
 exact ⟨nofun, rfl, rfl⟩
 refine BF ?_
 refine AJ ?_
 refine AC ?_
 refine A7 rfl rfl ?_
 obtain rfl := AB h
 refine BS ?_
 exact ⟨nofun, rfl, rfl⟩
def k56 : IC := (.seq (.reg [jn 1 (.box 41 (.t 0)), jc 2 (.bool false)]) (.seq (.reg [ja 3 0 1, jl 4 1 3, jn 5 (.bin .eql (.t 4) (.c (.str [101, 110, 116, 114, 121, 105, 100]))), jm 6 5, jf 6 7 (.fda 0 (.t 1)), jf 6 8 (.load 1 false (.t 7)), jf 6 9 (.fda 1 (.t 1)), jf 6 10 (.load 1 false (.t 9)), jf 6 11 (.call 57 [(.t 8), (.t 10)]), jf 6 12 (.bin .neq (.t 11) (ji 0)), jo 13 6 12, jm 2 13]) .ret))
theorem Sv : BX Tryz.prog Tryz.f56 = some ⟨14, k56, [(.tmp 2)]⟩ := by kernel_rfl
theorem aN (N : Nat) (a0 : AP) (r : Bool) (h : U7 N a0 = some r) : Sat Tryz.prog 56 AO [AV a0] (.bool r) AO := by
 refine DT mixed Tryz.func56 Sv (rs := [.bool r]) rfl rfl ?_
 refine AJ ?_
 refine AC ?_
 refine CS rfl (FZ 89601 rfl rfl rfl rfl rfl) ?_
 refine A7 rfl rfl ?_
 obtain ⟨g1, hg1, h⟩ := AL h
 refine F9 ⟨AY [(2, .bool g1)], AY []⟩ ?_ ?_
 have h := hg1
 refine AC ?_
 iterate 4 refine A7 rfl rfl ?_
 rcases BO h with ⟨c2, h⟩ | ⟨c2, h⟩
 iterate 6 refine BK (gn rfl c2) ?_
 refine A7 rfl (BA c2 rfl rfl) ?_
 refine A7 rfl rfl ?_
 obtain rfl := AB h
 exact (cn rfl rfl rfl rfl)
 iterate 4 refine A7 (gy rfl c2) rfl ?_
 obtain ⟨KW, aW, h⟩ := AL h
 refine CS (gy rfl c2) (CG (W9 N _ _ _ aW) rfl (.cons A9 (.cons A9 .nil)) rfl rfl rfl) ?_
 refine A7 (gy rfl c2) rfl ?_
 refine A7 rfl (AZ c2 rfl rfl) ?_
 refine A7 rfl rfl ?_
 cases AB h
 exact (cn rfl rfl rfl rfl)
 clear hg1
 obtain rfl := AB h
 refine BS ?_
 exact ⟨nofun, rfl, rfl⟩
def mY : IC := (.seq (.reg [jb .lss 9 8 7]) (.seq (.cond (.t 9) .skip (.exit 0)) (.seq (.block 1 (.seq (.reg [jm 10 8, jm 5 10]) (.seq (.reg [jm 11 1, jm 12 0, jm 13 5, jx 14 2 12 13, jg 15 2 14, jn 16 (.calv (.t 11) [(.t 15)])]) (.cond (.t 16) (.seq (.reg [jm 17 5, jm 4 17]) .ret) .skip)))) (.reg [ju .add 18 8 1, jm 8 18]))))
def Ry : IC := (.seq (.reg [jc 4 (j6 0)]) (.seq (.seq (.reg [jm 6 0, jL 7 6, jc 8 (j6 0)]) (.block 0 (.loop mY))) (.seq (.reg [jc 4 (j6 (-1))]) .ret)))
theorem Aa : BX Tryz.prog Tryz.f76 = some ⟨19, Ry, [(.tmp 4)]⟩ := by kernel_rfl
theorem J4 (N : Nat) (a0 : List AP) : ∀ (n : Nat) (x : Int) (y : Unit ⊕ Int), BM N a0 n x = some y → WX Tryz.prog (fun _ => false) (.loop mY) ((fun (x : Int) => ⟨AY [(0, .sl 2 (List.map AV a0)), (1, .clo 56 []), (7, .int .i64 (a0.length : Int)), (8, .int .i64 x)], AY []⟩) x) ((Sum.elim (fun y e s => e = .exit 0 ∧ s = ⟨AY [], AY []⟩) (fun y e s => e = .ret ∧ s = ⟨AY [(4, .int .i64 y)], AY []⟩) : (Unit ⊕ Int) → Xt → St → Prop) y) := by
 refine EQ _ _ (BM N a0) (CO N a0) (fun _ => rfl) (fun _ _ => rfl) ?_
 rintro rec v8l6 y h
 refine AJ ?_
 refine AC ?_
 refine A7 rfl rfl ?_
 refine AJ ?_
 refine D8 h rfl (fun c1 h => ?_) (fun c1 h => ?_)
 refine BF ?_
 refine AJ ?_
 refine C9 ?_
 refine AJ ?_
 refine AC ?_
 iterate 2 refine A7 rfl rfl ?_
 refine AJ ?_
 refine AC ?_
 iterate 3 refine A7 rfl rfl ?_
 obtain ⟨OB, SF, h⟩ := AL h
 refine A7 rfl (DK (cs := [.str OB.Attr, .str OB.Value]) SF rfl rfl rfl) ?_
 refine A7 (p := AV OB) rfl rfl ?_
 obtain ⟨Y4, hx16, h⟩ := AL h
 refine CS rfl (ZY (aN N _ _ hx16) rfl rfl rfl (.cons A9 .nil) rfl rfl rfl) ?_
 refine D8 h rfl (fun c2 h => ?_) (fun c2 h => ?_)
 refine AJ ?_
 refine AC ?_
 iterate 2 refine A7 rfl rfl ?_
 obtain rfl := AB h
 exact DU (st1 := ⟨AY [(4, .int .i64 v8l6)], AY []⟩) (cn rfl rfl rfl rfl) ⟨rfl, rfl⟩
 refine BF ?_
 refine AC ?_
 refine A7 (p := .int .i64 (BQ (v8l6 + (1 : Int)))) rfl rfl ?_
 refine A7 rfl rfl ?_
 exact ⟨(BQ (v8l6 + (1 : Int))), (cn rfl rfl rfl rfl), h⟩
 cases AB h
 exact CW (st1 := ⟨AY [], AY []⟩) (cn rfl rfl rfl rfl) ⟨rfl, rfl⟩
theorem J9 (N : Nat) (a0 : List AP) (r : Int) (h : EN N a0 = some r) : Sat Tryz.prog 76 AO [.sl 2 (List.map AV a0), .clo 56 []] (.int .i64 r) AO := by
 refine DT mixed Tryz.func76 Aa (rs := [.int .i64 r]) rfl rfl ?_
 refine AJ ?_
 refine AC ?_
 refine A7 rfl rfl ?_
 iterate 2 refine AJ ?_
 refine AC ?_
 refine A7 rfl rfl ?_
 refine A7 rfl (BV rfl) ?_
 refine A7 rfl rfl ?_
 refine C9 ?_
 obtain ⟨y3, hy3, h⟩ := AL h
 refine PT (J4 N a0 N _ _ hy3) (cn rfl rfl rfl rfl) ?_
 clear hy3
 rcases y3 with y3 | y3
 rintro e s ⟨rfl, rfl⟩
 refine AJ ?_
 refine AC ?_
 refine A7 rfl rfl ?_
 cases AB h
 refine BS ?_
 exact ⟨nofun, rfl, rfl⟩
 rintro e s ⟨rfl, rfl⟩
 obtain rfl := AB h
 exact ⟨nofun, rfl, rfl⟩
def Sy : IC := (.seq (.reg [jc 4 (.bool false)]) (.seq (.reg [jm 5 0, jm 6 1, jn 7 (.call 76 [(.t 5), (.t 6)]), ju .geq 8 7 0, jm 4 8]) .ret))
theorem Ae : BX Tryz.prog Tryz.f55 = some ⟨9, Sy, [(.tmp 4)]⟩ := by kernel_rfl
theorem IJ (N : Nat) (a0 : List AP) (r : Bool) (h : DX N a0 = some r) : Sat Tryz.prog 55 AO [.sl 2 (List.map AV a0), .clo 56 []] (.bool r) AO := by
 refine DT mixed Tryz.func55 Ae (rs := [.bool r]) rfl rfl ?_
 refine AJ ?_
 refine AC ?_
 refine A7 rfl rfl ?_
 refine AJ ?_
 refine AC ?_
 iterate 2 refine A7 rfl rfl ?_
 obtain ⟨x7, hx7, h⟩ := AL h
 refine CS rfl (CG (J9 N _ _ hx7) rfl (.cons A9 (.cons A9 .nil)) rfl rfl rfl) ?_
 iterate 2 refine A7 rfl rfl ?_
 cases AB h
 refine BS ?_
 exact ⟨nofun, rfl, rfl⟩
def k28 : IC := (.seq (.reg [jc 2 (.bool false)]) (.seq (.seq (.reg [jm 3 0, jn 4 (.call 54 [(.t 3)]), jn 5 (.un .not (.t 4)), jm 6 5, jf 6 7 (.mov (.t 0)), jf 6 8 (.len false (.t 7)), jf 6 9 (.bin .geq (.t 8) (ji 4)), jo 10 6 9]) (.cond (.t 10) (.seq (.reg [jc 2 (.bool false)]) .ret) .skip)) (.seq (.reg [jm 11 0, jn 12 (.call 55 [(.t 11), (.c (.clo 56 []))]), jn 13 (.un .not (.t 12)), jm 2 13]) .ret)))
theorem Uc : BX Tryz.prog Tryz.f28 = some ⟨14, k28, [(.tmp 2)]⟩ := by kernel_rfl
theorem WC (N : Nat) (a0 : List AP) (r : Bool) (h : QH N a0 = some r) : Sat Tryz.prog 28 AO [.sl 2 (List.map AV a0)] (.bool r) AO := by
 refine DT mixed Tryz.func28 Uc (rs := [.bool r]) rfl rfl ?_
 refine AJ ?_
 refine AC ?_
 refine A7 rfl rfl ?_
 refine AJ ?_
 obtain ⟨g1, hg1, h⟩ := AL h
 refine F9 ⟨AY [(0, .sl 2 (List.map AV a0)), (10, .bool g1)], AY []⟩ ?_ ?_
 have h := hg1
 refine AC ?_
 refine A7 rfl rfl ?_
 obtain ⟨x4, hx4, h⟩ := AL h
 refine CS rfl (CG (cZ N _ _ hx4) rfl (.cons A9 .nil) rfl rfl rfl) ?_
 iterate 2 refine A7 rfl rfl ?_
 rcases BO h with ⟨c2, h⟩ | ⟨c2, h⟩
 iterate 3 refine BK (gn rfl c2) ?_
 refine A7 rfl (BA c2 rfl rfl) ?_
 obtain rfl := AB h
 exact (cn rfl rfl rfl rfl)
 refine A7 (gy rfl c2) rfl ?_
 refine A7 (gy rfl c2) (BV rfl) ?_
 refine A7 (gy rfl c2) rfl ?_
 refine A7 rfl (AZ c2 rfl rfl) ?_
 cases AB h
 exact (cn rfl rfl rfl rfl)
 clear hg1
 refine D8 h rfl (fun c3 h => ?_) (fun c3 h => ?_)
 refine AJ ?_
 refine AC ?_
 refine A7 rfl rfl ?_
 obtain rfl := AB h
 refine BS ?_
 exact ⟨nofun, rfl, rfl⟩
 refine BF ?_
 refine AJ ?_
 refine AC ?_
 refine A7 rfl rfl ?_
 obtain ⟨IP, YI, h⟩ := AL h
 refine CS rfl (CG (IJ N _ _ YI) rfl (.cons A9 (.cons A9 .nil)) rfl rfl rfl) ?_
 iterate 2 refine A7 rfl rfl ?_
 cases AB h
 refine BS ?_
 exact ⟨nofun, rfl, rfl⟩
def k60 : IC := (.seq (.reg [jc 3 (.bool false)]) (.seq (.reg [ja 4 1 1, jl 5 1 4, jm 6 0, jn 7 (.call 57 [(.t 5), (.t 6)]), ju .neq 8 7 0, jm 3 8]) .ret))
theorem Sn : BX Tryz.prog Tryz.f60 = some ⟨9, k60, [(.tmp 3)]⟩ := by kernel_rfl
theorem ZP (N : Nat) (a0 : List UInt8) (c0 : BC) (r : Bool) (h : SH N a0 c0 = some r) : Sat Tryz.prog 60 AO [.str a0, .ep [.int .i64 c0.Kind, .str c0.Attr, .sl 1 (List.map PV.str c0.Values)]] (.bool r) AO := by
 refine DT mixed Tryz.func60 Sn (rs := [.bool r]) rfl rfl ?_
 refine AJ ?_
 refine AC ?_
 refine A7 rfl rfl ?_
 refine AJ ?_
 refine AC ?_
 refine A7 (p := .ep [.str c0.Attr, .sl 1 (List.map PV.str c0.Values)]) rfl rfl ?_
 iterate 2 refine A7 rfl rfl ?_
 obtain ⟨x7, hx7, h⟩ := AL h
 refine CS rfl (CG (W9 N _ _ _ hx7) rfl (.cons A9 (.cons A9 .nil)) rfl rfl rfl) ?_
 iterate 2 refine A7 rfl rfl ?_
 cases AB h
 refine BS ?_
 exact ⟨nofun, rfl, rfl⟩
def mW : IC := (.seq (.reg [jb .lss 9 8 7]) (.seq (.cond (.t 9) .skip (.exit 0)) (.seq (.block 1 (.seq (.reg [jm 10 8, jm 5 10]) (.seq (.reg [jm 11 1, jm 12 0, jm 13 5, jx 14 1 12 13, jl 15 1 14, jn 16 (.calv (.t 11) [(.t 15)])]) (.cond (.t 16) (.seq (.reg [jm 17 5, jm 4 17]) .ret) .skip)))) (.reg [ju .add 18 8 1, jm 8 18]))))
def Rt : IC := (.seq (.reg [jc 4 (j6 0)]) (.seq (.seq (.reg [jm 6 0, jL 7 6, jc 8 (j6 0)]) (.block 0 (.loop mW))) (.seq (.reg [jc 4 (j6 (-1))]) .ret)))
theorem zY : BX Tryz.prog Tryz.f80 = some ⟨19, Rt, [(.tmp 4)]⟩ := by kernel_rfl
theorem J8 (N : Nat) (a0 : List (List UInt8)) (JB : BC) : ∀ (n : Nat) (x : Int) (y : Unit ⊕ Int), BN N a0 JB n x = some y → WX Tryz.prog (fun _ => false) (.loop mW) ((fun (x : Int) => ⟨AY [(0, .sl 1 (List.map PV.str a0)), (1, .clo 60 [.ep [.int .i64 JB.Kind, .str JB.Attr, .sl 1 (List.map PV.str JB.Values)]]), (7, .int .i64 (a0.length : Int)), (8, .int .i64 x)], AY []⟩) x) ((Sum.elim (fun y e s => e = .exit 0 ∧ s = ⟨AY [], AY []⟩) (fun y e s => e = .ret ∧ s = ⟨AY [(4, .int .i64 y)], AY []⟩) : (Unit ⊕ Int) → Xt → St → Prop) y) := by
 refine EQ _ _ (BN N a0 JB) (CR N a0 JB) (fun _ => rfl) (fun _ _ => rfl) ?_
 rintro rec v8l6 y h
 refine AJ ?_
 refine AC ?_
 refine A7 rfl rfl ?_
 refine AJ ?_
 refine D8 h rfl (fun c1 h => ?_) (fun c1 h => ?_)
 refine BF ?_
 refine AJ ?_
 refine C9 ?_
 refine AJ ?_
 refine AC ?_
 iterate 2 refine A7 rfl rfl ?_
 refine AJ ?_
 refine AC ?_
 iterate 3 refine A7 rfl rfl ?_
 obtain ⟨OB, SF, h⟩ := AL h
 refine A7 rfl (DK (cs := [.str OB]) SF rfl rfl rfl) ?_
 refine A7 rfl rfl ?_
 obtain ⟨Y4, hx16, h⟩ := AL h
 refine CS rfl (ZY (ZP N _ _ _ hx16) rfl rfl rfl (.cons A9 (.cons A9 .nil)) rfl rfl rfl) ?_
 refine D8 h rfl (fun c2 h => ?_) (fun c2 h => ?_)
 refine AJ ?_
 refine AC ?_
 iterate 2 refine A7 rfl rfl ?_
 obtain rfl := AB h
 exact DU (st1 := ⟨AY [(4, .int .i64 v8l6)], AY []⟩) (cn rfl rfl rfl rfl) ⟨rfl, rfl⟩
 refine BF ?_
 refine AC ?_
 refine A7 (p := .int .i64 (BQ (v8l6 + (1 : Int)))) rfl rfl ?_
 refine A7 rfl rfl ?_
 exact ⟨(BQ (v8l6 + (1 : Int))), (cn rfl rfl rfl rfl), h⟩
 cases AB h
 exact CW (st1 := ⟨AY [], AY []⟩) (cn rfl rfl rfl rfl) ⟨rfl, rfl⟩
theorem JC (N : Nat) (a0 : List (List UInt8)) (JB : BC) (r : Int) (h : EP N a0 JB = some r) : Sat Tryz.prog 80 AO [.sl 1 (List.map PV.str a0), .clo 60 [.ep [.int .i64 JB.Kind, .str JB.Attr, .sl 1 (List.map PV.str JB.Values)]]] (.int .i64 r) AO := by
 refine DT mixed Tryz.func80 zY (rs := [.int .i64 r]) rfl rfl ?_
 refine AJ ?_
 refine AC ?_
 refine A7 rfl rfl ?_
 iterate 2 refine AJ ?_
 refine AC ?_
 refine A7 rfl rfl ?_
 refine A7 rfl (BV rfl) ?_
 refine A7 rfl rfl ?_
 refine C9 ?_
 obtain ⟨y3, hy3, h⟩ := AL h
 refine PT (J8 N a0 JB N _ _ hy3) (cn rfl rfl rfl rfl) ?_
 clear hy3
 rcases y3 with y3 | y3
 rintro e s ⟨rfl, rfl⟩
 refine AJ ?_
 refine AC ?_
 refine A7 rfl rfl ?_
 cases AB h
 refine BS ?_
 exact ⟨nofun, rfl, rfl⟩
 rintro e s ⟨rfl, rfl⟩
 obtain rfl := AB h
 exact ⟨nofun, rfl, rfl⟩
def Sq : IC := (.seq (.reg [jc 4 (.bool false)]) (.seq (.reg [jm 5 0, jm 6 1, jn 7 (.call 80 [(.t 5), (.t 6)]), ju .geq 8 7 0, jm 4 8]) .ret))
theorem Ac : BX Tryz.prog Tryz.f59 = some ⟨9, Sq, [(.tmp 4)]⟩ := by kernel_rfl
theorem IQ (N : Nat) (a0 : List (List UInt8)) (JB : BC) (r : Bool) (h : CV N a0 JB = some r) : Sat Tryz.prog 59 AO [.sl 1 (List.map PV.str a0), .clo 60 [.ep [.int .i64 JB.Kind, .str JB.Attr, .sl 1 (List.map PV.str JB.Values)]]] (.bool r) AO := by
 refine DT mixed Tryz.func59 Ac (rs := [.bool r]) rfl rfl ?_
 refine AJ ?_
 refine AC ?_
 refine A7 rfl rfl ?_
 refine AJ ?_
 refine AC ?_
 iterate 2 refine A7 rfl rfl ?_
 obtain ⟨x7, hx7, h⟩ := AL h
 refine CS rfl (CG (JC N _ _ _ hx7) rfl (.cons A9 (.cons A9 .nil)) rfl rfl rfl) ?_
 iterate 2 refine A7 rfl rfl ?_
 cases AB h
 refine BS ?_
 exact ⟨nofun, rfl, rfl⟩
end Go.Gp
end
section
set_option linter.unusedVariables false
set_option linter.unusedSimpArgs false
set_option maxRecDepth 4000
set_option maxHeartbeats 4000000
namespace Go.Gp
open Go.Vd Go.RowKit Go.Proofs
def Ff : IC := (.seq (.reg [jb .lss 12 11 10]) (.seq (.cond (.t 12) .skip (.exit 0)) (.seq (.block 1 (.seq (.reg [jx 13 3 9 11, jg 14 3 13, jn 6 (.box 44 (.c (.agg [(j6 0), (.str []), .nl]))), js 3 6 14]) (.seq (.reg [ja 16 1 6, jl 17 1 16, jn 18 (.call 58 [(.t 17)]), jm 15 18, je 19 0 15, je 20 1 15, jn 7 (.box 90 (.c (.agg [(.str []), (j6 0), (.bool false)]))), js 3 7 19, jm 8 20]) (.seq (.seq (.reg [jm 21 8, jn 22 (.un .not (.t 21)), jm 23 22, jf 23 24 (.fda 0 (.t 7)), jf 23 25 (.load 1 false (.t 24)), jf 23 26 (.fda 1 (.t 6)), jf 23 27 (.load 1 false (.t 26)), jf 23 28 (.bin .neq (.t 25) (.t 27)), jo 29 23 28, jm 30 29, jf 30 31 (.fda 1 (.t 6)), jf 30 32 (.load 1 false (.t 31)), jf 30 33 (.bin .eql (.t 32) (.c (.str [101, 110, 116, 114, 121, 105, 100]))), jo 34 30 33, jm 35 34, jf 35 36 (.fda 0 (.t 6)), jf 35 37 (.load 1 false (.t 36)), jf 35 38 (.bin .lss (.t 37) (ji 1)), jo 39 35 38, jm 40 39, jf 40 41 (.fda 0 (.t 6)), jf 40 42 (.load 1 false (.t 41)), jf 40 43 (.mov (.t 1)), jf 40 44 (.bin .gtr (.t 42) (.t 43)), jo 45 40 44, jm 46 45, jf 46 47 (.fda 2 (.t 6)), jf 46 48 (.load 1 false (.t 47)), jf 46 49 (.len false (.t 48)), jf 46 50 (.bin .gtr (.t 49) (ji 12)), jo 51 46 50, jm 52 51, jf 52 53 (.fda 0 (.t 6)), jf 52 54 (.load 1 false (.t 53)), jf 52 55 (.bin .eql (.t 54) (ji 1)), jf 52 56 (.mov (.t 55)), jt 56 57 (.fda 2 (.t 6)), jt 56 58 (.load 1 false (.t 57)), jt 56 59 (.len false (.t 58)), jt 56 60 (.bin .eql (.t 59) (ji 0)), jf 52 61 (.pick (.t 56) (.t 60) jA), jo 62 52 61]) (.cond (.t 62) (.seq (.reg [jc 4 (.bool false)]) .ret) .skip)) (.seq (.reg [ja 63 2 6, jl 64 1 63, jn 65 (.mkf 60 [(.t 6)]), jn 66 (.call 59 [(.t 64), (.t 65)])]) (.cond (.t 66) (.seq (.reg [jc 4 (.bool false)]) .ret) .skip)))))) (.reg [ju .add 67 11 1, jm 11 67]))))
def k29 : IC := (.seq (.reg [jc 4 (.bool false)]) (.seq (.seq (.reg [jm 9 0, jL 10 9, jc 11 (j6 0)]) (.block 0 (.loop Ff))) (.seq (.reg [jm 68 0, jL 69 68, ju .leq 70 69 8, jm 4 70]) .ret)))
theorem Ub : BX Tryz.prog Tryz.f29 = some ⟨71, k29, [(.tmp 4)]⟩ := by kernel_rfl
theorem aD (N : Nat) (a0 : List BC) (a1 : Int) : ∀ (n : Nat) (x : Int) (y : Unit ⊕ Bool), I9 N a0 a1 n x = some y → WX Tryz.prog (fun _ => false) (.loop Ff) ((fun (x : Int) => ⟨AY [(0, .sl 3 (List.map AU a0)), (1, .int .i64 a1), (9, .sl 3 (List.map AU a0)), (10, .int .i64 (a0.length : Int)), (11, .int .i64 x)], AY []⟩) x) ((Sum.elim (fun y e s => e = .exit 0 ∧ s = ⟨AY [(0, .sl 3 (List.map AU a0))], AY []⟩) (fun y e s => e = .ret ∧ s = ⟨AY [(4, .bool y)], AY []⟩) : (Unit ⊕ Bool) → Xt → St → Prop) y) := by
 refine EQ _ _ (I9 N a0 a1) (M5 N a0 a1) (fun _ => rfl) (fun _ _ => rfl) ?_
 rintro rec v11l6 y h
 refine AJ ?_
 refine AC ?_
 refine A7 rfl rfl ?_
 refine AJ ?_
 refine D8 h rfl (fun c1 h => ?_) (fun c1 h => ?_)
 refine BF ?_
 refine AJ ?_
 refine C9 ?_
 refine AJ ?_
 refine AC ?_
 obtain ⟨MF, aV, h⟩ := AL h
 refine A7 rfl (DK (cs := [.int .i64 MF.Kind, .str MF.Attr, .sl 1 (List.map PV.str MF.Values)]) aV rfl rfl rfl) ?_
 refine A7 (p := AU MF) rfl rfl ?_
 refine CS rfl (FZ 46406 rfl rfl rfl rfl rfl) ?_
 refine F3 (e' := AU MF) rfl rfl rfl rfl rfl rfl rfl rfl nofun rfl ?_
 refine AJ ?_
 refine AC ?_
 iterate 2 refine A7 rfl rfl ?_
 obtain ⟨OV, fF, h⟩ := AL h
 refine CS rfl (CG (XL N _ _ fF) rfl (.cons A9 .nil) rfl rfl rfl) ?_
 iterate 3 refine A7 rfl rfl ?_
 refine CS rfl (FZ 46407 rfl rfl rfl rfl rfl) ?_
 refine F3 (e' := CJ OV.1) rfl rfl rfl rfl rfl rfl rfl rfl nofun rfl ?_
 refine A7 rfl rfl ?_
 refine AJ ?_
 obtain ⟨g2, hg2, h⟩ := AL h
 refine F9 ⟨AY [(0, .sl 3 (List.map AU a0)), (1, .int .i64 a1), (6, .ptr 46406 0 0), (9, .sl 3 (List.map AU a0)), (10, .int .i64 (a0.length : Int)), (11, .int .i64 v11l6), (62, .bool g2)], AY [(46406, ⟨3, false, [AU MF]⟩)]⟩ ?_ ?_
 have h := hg2
 refine AC ?_
 iterate 3 refine A7 rfl rfl ?_
 rcases BO h with ⟨c3, h⟩ | ⟨c3, h⟩
 iterate 5 refine BK (gn rfl c3) ?_
 refine A7 rfl (BA c3 rfl rfl) ?_
 refine A7 rfl rfl ?_
 iterate 3 refine BK rfl ?_
 iterate 2 refine A7 rfl rfl ?_
 iterate 3 refine BK rfl ?_
 iterate 2 refine A7 rfl rfl ?_
 iterate 4 refine BK rfl ?_
 iterate 2 refine A7 rfl rfl ?_
 iterate 4 refine BK rfl ?_
 iterate 2 refine A7 rfl rfl ?_
 iterate 4 refine BK rfl ?_
 iterate 4 refine BK (gu rfl) ?_
 refine BK rfl ?_
 refine A7 rfl rfl ?_
 obtain rfl := AB h
 exact (cn rfl rfl rfl rfl)
 iterate 5 refine A7 (gy rfl c3) rfl ?_
 refine A7 rfl (AZ c3 rfl rfl) ?_
 refine A7 rfl rfl ?_
 rcases BO h with ⟨c4, h⟩ | ⟨c4, h⟩
 iterate 3 refine BK (gn rfl c4) ?_
 refine A7 rfl (BA c4 rfl rfl) ?_
 refine A7 rfl rfl ?_
 iterate 3 refine BK rfl ?_
 iterate 2 refine A7 rfl rfl ?_
 iterate 4 refine BK rfl ?_
 iterate 2 refine A7 rfl rfl ?_
 iterate 4 refine BK rfl ?_
 iterate 2 refine A7 rfl rfl ?_
 iterate 4 refine BK rfl ?_
 iterate 4 refine BK (gu rfl) ?_
 refine BK rfl ?_
 refine A7 rfl rfl ?_
 obtain rfl := AB h
 exact (cn rfl rfl rfl rfl)
 iterate 3 refine A7 (gy rfl c4) rfl ?_
 refine A7 rfl (AZ c4 rfl rfl) ?_
 refine A7 rfl rfl ?_
 rcases BO h with ⟨c5, h⟩ | ⟨c5, h⟩
 iterate 3 refine BK (gn rfl c5) ?_
 refine A7 rfl (BA c5 rfl rfl) ?_
 refine A7 rfl rfl ?_
 iterate 4 refine BK rfl ?_
 iterate 2 refine A7 rfl rfl ?_
 iterate 4 refine BK rfl ?_
 iterate 2 refine A7 rfl rfl ?_
 iterate 4 refine BK rfl ?_
 iterate 4 refine BK (gu rfl) ?_
 refine BK rfl ?_
 refine A7 rfl rfl ?_
 obtain rfl := AB h
 exact (cn rfl rfl rfl rfl)
 iterate 3 refine A7 (gy rfl c5) rfl ?_
 refine A7 rfl (AZ c5 rfl rfl) ?_
 refine A7 rfl rfl ?_
 rcases BO h with ⟨c6, h⟩ | ⟨c6, h⟩
 iterate 4 refine BK (gn rfl c6) ?_
 refine A7 rfl (BA c6 rfl rfl) ?_
 refine A7 rfl rfl ?_
 iterate 4 refine BK rfl ?_
 iterate 2 refine A7 rfl rfl ?_
 iterate 4 refine BK rfl ?_
 iterate 4 refine BK (gu rfl) ?_
 refine BK rfl ?_
 refine A7 rfl rfl ?_
 obtain rfl := AB h
 exact (cn rfl rfl rfl rfl)
 iterate 4 refine A7 (gy rfl c6) rfl ?_
 refine A7 rfl (AZ c6 rfl rfl) ?_
 refine A7 rfl rfl ?_
 rcases BO h with ⟨c7, h⟩ | ⟨c7, h⟩
 iterate 4 refine BK (gn rfl c7) ?_
 refine A7 rfl (BA c7 rfl rfl) ?_
 refine A7 rfl rfl ?_
 iterate 4 refine BK rfl ?_
 iterate 4 refine BK (gu rfl) ?_
 refine BK rfl ?_
 refine A7 rfl rfl ?_
 obtain rfl := AB h
 exact (cn rfl rfl rfl rfl)
 iterate 2 refine A7 (gy rfl c7) rfl ?_
 refine A7 (gy rfl c7) (BV rfl) ?_
 refine A7 (gy rfl c7) rfl ?_
 refine A7 rfl (AZ c7 rfl rfl) ?_
 refine A7 rfl rfl ?_
 rcases BO h with ⟨c8, h⟩ | ⟨c8, h⟩
 iterate 4 refine BK (gn rfl c8) ?_
 iterate 4 refine BK (gu rfl) ?_
 refine BK (gn rfl c8) ?_
 refine A7 rfl (BA c8 rfl rfl) ?_
 obtain rfl := AB h
 exact (cn rfl rfl rfl rfl)
 iterate 4 refine A7 (gy rfl c8) rfl ?_
 rcases BO h with ⟨c9, h⟩ | ⟨c9, h⟩
 iterate 2 refine A7 (gy rfl c9) rfl ?_
 refine A7 (gy rfl c9) (BV rfl) ?_
 refine A7 (gy rfl c9) rfl ?_
 refine A7 (gy rfl c8) (BA c9 rfl rfl) ?_
 refine A7 rfl (AZ c8 rfl rfl) ?_
 cases AB h
 exact (cn rfl rfl rfl rfl)
 iterate 4 refine BK (gn rfl c9) ?_
 refine A7 (gy rfl c8) (AZ c9 rfl rfl) ?_
 refine A7 rfl (AZ c8 rfl rfl) ?_
 obtain rfl := AB h
 exact (cn rfl rfl rfl rfl)
 clear hg2
 refine D8 h rfl (fun c10 h => ?_) (fun c10 h => ?_)
 refine AJ ?_
 refine AC ?_
 refine A7 rfl rfl ?_
 obtain rfl := AB h
 exact DU (st1 := ⟨AY [(4, .bool false)], AY []⟩) (cn rfl rfl rfl rfl) ⟨rfl, rfl⟩
 refine BF ?_
 refine AJ ?_
 refine AC ?_
 iterate 3 refine A7 rfl rfl ?_
 refine wn (UY 46406 rfl rfl rfl) ?_
 obtain ⟨x66, hx66, h⟩ := AL h
 refine CS rfl (CG (IQ N _ _ _ hx66) rfl (.cons A9 (.cons A9 .nil)) rfl rfl rfl) ?_
 refine D8 h rfl (fun c11 h => ?_) (fun c11 h => ?_)
 refine AJ ?_
 refine AC ?_
 refine A7 rfl rfl ?_
 obtain rfl := AB h
 exact DU (st1 := ⟨AY [(4, .bool false)], AY []⟩) (cn rfl rfl rfl rfl) ⟨rfl, rfl⟩
 refine BF ?_
 refine AC ?_
 refine A7 (p := .int .i64 (BQ (v11l6 + (1 : Int)))) rfl rfl ?_
 refine A7 rfl rfl ?_
 exact ⟨(BQ (v11l6 + (1 : Int))), (cn rfl rfl rfl rfl), h⟩
 cases AB h
 exact CW (st1 := ⟨AY [(0, .sl 3 (List.map AU a0))], AY []⟩) (cn rfl rfl rfl rfl) ⟨rfl, rfl⟩
theorem UL (N : Nat) (a0 : List BC) (a1 : Int) (r : Bool) (h : OH N a0 a1 = some r) : Sat Tryz.prog 29 AO [.sl 3 (List.map AU a0), .int .i64 a1] (.bool r) AO := by
 refine DT mixed Tryz.func29 Ub (rs := [.bool r]) rfl rfl ?_
 refine AJ ?_
 refine AC ?_
 refine A7 rfl rfl ?_
 iterate 2 refine AJ ?_
 refine AC ?_
 refine A7 rfl rfl ?_
 refine A7 rfl (BV rfl) ?_
 refine A7 rfl rfl ?_
 refine C9 ?_
 obtain ⟨pO, Gb, h⟩ := AL h
 refine PT (aD N a0 a1 N _ _ Gb) (cn rfl rfl rfl rfl) ?_
 clear Gb
 rcases pO with pO | pO
 rintro e s ⟨rfl, rfl⟩
 refine AJ ?_
 refine AC ?_
 refine A7 rfl rfl ?_
 refine A7 rfl (BV rfl) ?_
 iterate 2 refine A7 rfl rfl ?_
 cases AB h
 refine BS ?_
 exact ⟨nofun, rfl, rfl⟩
 rintro e s ⟨rfl, rfl⟩
 obtain rfl := AB h
 exact ⟨nofun, rfl, rfl⟩
end Go.Gp
end
