/- A part of the proof: functions of the program and what they compute. -/
import Derived.Test.YtlopcglohpfonaaGreatDoorA5
import Derived.Test.YtlopcglohpfonaaGreatDoorA4
import Derived.Test.YtlopcglohpfonaaGreatDoorA8
import Derived.Test.YtlopcglohpfonaaGreatDoorA9
import Derived.Shelf.Strings.Trim
import Derived.Shelf.Small.Utf8
import Derived.Shelf.Small.Strs
import Derived.Shelf.Small.Wraps
import Derived.Shelf.Strconv.Itoa0
import Derived.Shelf.Strconv.Itoa1
import Derived.Shelf.LaysM
import Derived.Shelf.Strconv.Itoa2
import Derived.Shelf.Strconv.Itoa3
import Derived.Shelf.Strconv.Itoa4
import Derived.Shelf.Strconv.ParseIntEmpty
import Derived.Shelf.Strconv.Clone
import Derived.Shelf.Strconv.SyntaxError
import Derived.Shelf.LaysC
import Derived.Shelf.Strconv.ToError
import Derived.Shelf.Strconv.Lower
import Derived.Shelf.Strconv.ParseUint10
import Derived.Shelf.Strconv.ParseUint10Empty
import Derived.Shelf.Strconv.ParseUint10Any
import Derived.Shelf.Strconv.ParseInt10
import Derived.Shelf.Strconv.RangeError
import Derived.Shelf.Strconv.ToErrorRange
import Derived.Shelf.Strconv.ParseUintEmpty
import Derived.Shelf.Strconv.ParseUint10b64
import Derived.Shelf.Strconv.ParseUint10b32
import Derived.Shelf.Strconv.ParseUint10b16
import Derived.Shelf.Strconv.ParseUint10b8
import Derived.Shelf.Strconv.ParseUint10At
import Derived.Shelf.Strconv.ParseInt10At64
import Derived.Shelf.Strconv.ParseInt10At32
import Derived.Shelf.Strconv.ParseInt10At16
import Derived.Shelf.Strconv.ParseInt10At8
import Derived.Shelf.Strconv.ParseInt10All
import Derived.Shelf.Strconv.ParseIntPublic10
import Derived.Shelf.Strconv.ErrVarParseInt
import Derived.Shelf.Strings.Search1
import Derived.Shelf.Strings.Search2
import Derived.Shelf.Strings.Search3
import Derived.Shelf.Strings.Cut
import Derived.Shelf.Strings.Count
import Derived.Shelf.Strings.Shaped
import Derived.Shelf.Strings.Prefix
import Derived.Shelf.Strings.Split
import Derived.Shelf.Strings.SplitShaped
import Derived.Shelf.Strings.Runes
import Derived.Shelf.Strings.AsciiSet
import Derived.Shelf.Unicode.DecodeSlow
import Derived.Shelf.Slices.Equal
import Derived.Ground.Names2Prog
import Derived.Shelf.Slices.Clone
import Derived.Ground.SlgnProg
import Derived.Shelf.SlicesE.Clone
import Derived.Test.YtlopcglohpfonaaGreatDoorProg
section
namespace Go.Proofs
open Go.Shelf
def Tryz.lays231_ren : Go.Shelf.Ren := ⟨fun | 231 => 112 | n => n, fun | 9 => 9 | 5 => 5 | 3 => 3 | 4 => 4 | n => n, fun | n => n⟩
theorem Tryz.lays231 : Go.Proofs.Lays.n231 Tryz.prog Tryz.lays231_ren := {
 mixed := by kernel_rfl
 f231 := Tryz.func112.trans (congrArg some (by kernel_rfl))
 t3 := Tryz.underlying3
 a3 := Tryz.isAgg3
 z3 := Tryz.sizeOf3
 v3 := Tryz.zeroValue3
 t4 := Tryz.underlying4
 a4 := Tryz.isAgg4
 z4 := Tryz.sizeOf4
 v4 := Tryz.zeroValue4
 t5 := Tryz.underlying5
 a5 := Tryz.isAgg5
 z5 := Tryz.sizeOf5
 v5 := Tryz.zeroValue5
 t9 := Tryz.underlying9
 a9 := Tryz.isAgg9
 z9 := Tryz.sizeOf9
 v9 := Tryz.zeroValue9 }
open Go.RowKit in
theorem Tryz.strings_trimLeftByte (s : ByteArray) (c : UInt8) (w : World) :
  Calls Tryz.prog 112 #[.string s, .int .u8 c.toNat] w fun e w' => e = .returned (.string ⟨(Lib.trimLeftB s.data.toList c).toArray⟩) ∧ w' = w := Any.strings_trimLeftByte Tryz.lays231 s c w
def Tryz.lays232_ren : Go.Shelf.Ren := ⟨fun | 232 => 113 | n => n, fun | 9 => 9 | 5 => 5 | 3 => 3 | 4 => 4 | n => n, fun | n => n⟩
theorem Tryz.lays232 : Go.Proofs.Lays.n232 Tryz.prog Tryz.lays232_ren := {
 mixed := by kernel_rfl
 f232 := Tryz.func113.trans (congrArg some (by kernel_rfl))
 t3 := Tryz.underlying3
 a3 := Tryz.isAgg3
 z3 := Tryz.sizeOf3
 v3 := Tryz.zeroValue3
 t4 := Tryz.underlying4
 a4 := Tryz.isAgg4
 z4 := Tryz.sizeOf4
 v4 := Tryz.zeroValue4
 t5 := Tryz.underlying5
 a5 := Tryz.isAgg5
 z5 := Tryz.sizeOf5
 v5 := Tryz.zeroValue5
 t9 := Tryz.underlying9
 a9 := Tryz.isAgg9
 z9 := Tryz.sizeOf9
 v9 := Tryz.zeroValue9 }
open Go.RowKit in
theorem Tryz.strings_trimRightByte (s : ByteArray) (c : UInt8) (w : World) (hs : s.size ≤ 9223372036854775807) :
  Calls Tryz.prog 113 #[.string s, .int .u8 c.toNat] w fun e w' => e = .returned (.string ⟨(Lib.trimRightB s.data.toList c).toArray⟩) ∧ w' = w := Any.strings_trimRightByte Tryz.lays232 s c w hs
def Tryz.lays137_ren : Go.Shelf.Ren := ⟨fun | 137 => 156 | 217 => 145 | 266 => 158 | n => n, fun | 9 => 9 | 5 => 5 | 3 => 3 | n => n, fun | n => n⟩
theorem Tryz.lays137 : Go.Proofs.Lays.n137 Tryz.prog Tryz.lays137_ren := {
 mixed := by kernel_rfl
 f137 := Tryz.func156.trans (congrArg some (by kernel_rfl))
 f217 := Tryz.func145.trans (congrArg some (by kernel_rfl))
 f266 := Tryz.func158.trans (congrArg some (by kernel_rfl))
 t3 := Tryz.underlying3
 a3 := Tryz.isAgg3
 z3 := Tryz.sizeOf3
 v3 := Tryz.zeroValue3
 t5 := Tryz.underlying5
 a5 := Tryz.isAgg5
 z5 := Tryz.sizeOf5
 v5 := Tryz.zeroValue5
 t9 := Tryz.underlying9
 a9 := Tryz.isAgg9
 z9 := Tryz.sizeOf9
 v9 := Tryz.zeroValue9 }
open Go.RowKit in
theorem Tryz.strings_IndexByte (s : ByteArray) (c : Int) (w : World) :
  Calls Tryz.prog 156 #[.string s, .int .u8 c] w fun e w' => e = .returned (.int .i64 (Lib.indexByte s.data.toList c.toNat.toUInt8)) ∧ w' = w := Any.strings_IndexByte Tryz.lays137 s c w
def Tryz.lays215_ren : Go.Shelf.Ren := ⟨fun | 215 => 73 | n => n, fun | 3 => 3 | 4 => 4 | n => n, fun | n => n⟩
theorem Tryz.lays215 : Go.Proofs.Lays.n215 Tryz.prog Tryz.lays215_ren := {
 mixed := by kernel_rfl
 f215 := Tryz.func73.trans (congrArg some (by kernel_rfl))
 t3 := Tryz.underlying3
 a3 := Tryz.isAgg3
 z3 := Tryz.sizeOf3
 v3 := Tryz.zeroValue3
 t4 := Tryz.underlying4
 a4 := Tryz.isAgg4
 z4 := Tryz.sizeOf4
 v4 := Tryz.zeroValue4 }
open Go.RowKit in
theorem Tryz.cmp_isNaN_int (x : Int) (w : World) :
  Calls Tryz.prog 73 #[.int .i64 x] w fun e w' => e = .returned (.bool false) ∧ w' = w := Any.cmp_isNaN_int Tryz.lays215 x w
def Tryz.lays122_ren : Go.Shelf.Ren := ⟨fun | 122 => 53 | 215 => 73 | n => n, fun | 3 => 3 | 4 => 4 | n => n, fun | n => n⟩
theorem Tryz.lays122 : Go.Proofs.Lays.n122 Tryz.prog Tryz.lays122_ren := {
 mixed := by kernel_rfl
 f122 := Tryz.func53.trans (congrArg some (by kernel_rfl))
 f215 := Tryz.func73.trans (congrArg some (by kernel_rfl))
 t3 := Tryz.underlying3
 a3 := Tryz.isAgg3
 z3 := Tryz.sizeOf3
 v3 := Tryz.zeroValue3
 t4 := Tryz.underlying4
 a4 := Tryz.isAgg4
 z4 := Tryz.sizeOf4
 v4 := Tryz.zeroValue4 }
open Go.RowKit in
theorem Tryz.cmp_Compare_int (x y : Int) (w : World) :
  Calls Tryz.prog 53 #[.int .i64 x, .int .i64 y] w fun e w' => e = .returned (.int .i64 (Lib.compareInt x y)) ∧ w' = w := Any.cmp_Compare_int Tryz.lays122 x y w
def Tryz.laysM171_ren : Go.Shelf.Ren := ⟨fun | 171 => 71 | 243 => 92 | 246 => 91 | 283 => 108 | 284 => 109 | 285 => 110 | 286 => 111 | 129 => 132 | 317 => 131 | 318 => 133 | 319 => 134 | 320 => 135 | 337 => 149 | 338 => 150 | n => n, fun | 3 => 3 | 9 => 9 | 2 => 2 | 4 => 4 | 171 => 143 | 0 => 0 | 53 => 137 | 37 => 36 | 5 => 5 | 173 => 146 | 212 => 168 | 51 => 169 | 20 => 20 | 213 => 170 | 46 => 100 | 232 => 192 | 233 => 193 | n => n, fun | 17 => 2 | 18 => 6 | 19 => 7 | n => n⟩
theorem Tryz.laysM171 : Go.Proofs.LaysM.n171 Tryz.prog Tryz.laysM171_ren := {
 mixed := by kernel_rfl
 f129 := Tryz.func132.trans (congrArg some (by kernel_rfl))
 f171 := Tryz.func71.trans (congrArg some (by kernel_rfl))
 f243 := Tryz.func92.trans (congrArg some (by kernel_rfl))
 f246 := Tryz.func91.trans (congrArg some (by kernel_rfl))
 f283 := Tryz.func108.trans (congrArg some (by kernel_rfl))
 f284 := Tryz.func109.trans (congrArg some (by kernel_rfl))
 f285 := Tryz.func110.trans (congrArg some (by kernel_rfl))
 f286 := Tryz.func111.trans (congrArg some (by kernel_rfl))
 f317 := Tryz.func131.trans (congrArg some (by kernel_rfl))
 f318 := Tryz.func133.trans (congrArg some (by kernel_rfl))
 f319 := Tryz.func134.trans (congrArg some (by kernel_rfl))
 f320 := Tryz.func135.trans (congrArg some (by kernel_rfl))
 f337 := Tryz.func149.trans (congrArg some (by kernel_rfl))
 f338 := Tryz.func150.trans (congrArg some (by kernel_rfl))
 t0 := Tryz.underlying0
 a0 := Tryz.isAgg0
 z0 := Tryz.sizeOf0
 v0 := Tryz.zeroValue0
 t2 := Tryz.underlying2
 a2 := Tryz.isAgg2
 z2 := Tryz.sizeOf2
 v2 := Tryz.zeroValue2
 t3 := Tryz.underlying3
 a3 := Tryz.isAgg3
 z3 := Tryz.sizeOf3
 v3 := Tryz.zeroValue3
 t4 := Tryz.underlying4
 a4 := Tryz.isAgg4
 z4 := Tryz.sizeOf4
 v4 := Tryz.zeroValue4
 t5 := Tryz.underlying5
 a5 := Tryz.isAgg5
 z5 := Tryz.sizeOf5
 v5 := Tryz.zeroValue5
 t9 := Tryz.underlying9
 a9 := Tryz.isAgg9
 z9 := Tryz.sizeOf9
 v9 := Tryz.zeroValue9
 t20 := Tryz.underlying20
 a20 := Tryz.isAgg20
 z20 := Tryz.sizeOf20
 v20 := Tryz.zeroValue20
 t37 := Tryz.underlying36
 a37 := Tryz.isAgg36
 z37 := Tryz.sizeOf36
 v37 := Tryz.zeroValue36
 t46 := Tryz.underlying100
 a46 := Tryz.isAgg100
 z46 := Tryz.sizeOf100
 v46 := Tryz.zeroValue100
 t51 := Tryz.underlying169
 a51 := Tryz.isAgg169
 z51 := Tryz.sizeOf169
 v51 := Tryz.zeroValue169
 t53 := Tryz.underlying137
 a53 := Tryz.isAgg137
 z53 := Tryz.sizeOf137
 v53 := Tryz.zeroValue137
 t171 := Tryz.underlying143
 a171 := Tryz.isAgg143
 z171 := Tryz.sizeOf143
 v171 := Tryz.zeroValue143
 t173 := Tryz.underlying146
 a173 := Tryz.isAgg146
 z173 := Tryz.sizeOf146
 v173 := Tryz.zeroValue146
 t212 := Tryz.underlying168
 a212 := Tryz.isAgg168
 z212 := Tryz.sizeOf168
 v212 := Tryz.zeroValue168
 t213 := Tryz.underlying170
 a213 := Tryz.isAgg170
 z213 := Tryz.sizeOf170
 t232 := Tryz.underlying192
 a232 := Tryz.isAgg192
 z232 := Tryz.sizeOf192
 v232 := Tryz.zeroValue192
 t233 := Tryz.underlying193
 a233 := Tryz.isAgg193
 z233 := Tryz.sizeOf193
 v233 := Tryz.zeroValue193
 g17 := by kernel_rfl
 g18 := by kernel_rfl
 g19 := by kernel_rfl
 i0 := by kernel_rfl
 i2 := by kernel_rfl
 i3 := by kernel_rfl
 i4 := by kernel_rfl
 i5 := by kernel_rfl
 i9 := by kernel_rfl
 i20 := by kernel_rfl
 i37 := by kernel_rfl
 i46 := by kernel_rfl
 i51 := by kernel_rfl
 i53 := by kernel_rfl
 i171 := by kernel_rfl
 i173 := by kernel_rfl
 i212 := by kernel_rfl
 i232 := by kernel_rfl
 i233 := by kernel_rfl
 m17 := by kernel_rfl
 m18 := by kernel_rfl
 m19 := by kernel_rfl }
open Go.RowKit Go.Sort Go.Lib in
theorem Tryz.strconv_Itoa (n : Int) (h0 : -9223372036854775808 ≤ n) (h1 : n ≤ 9223372036854775807) (w : World) (htab : Lib.TabIs Tryz.prog w "internal/strconv.uint64pow10" .u64 Lib.pow10Tab) :
  Calls Tryz.prog 71 #[.int .i64 n] w fun e w' => e = .returned (.string ⟨(Lib.itoa n).toArray⟩) ∧ ∃ k os, w' = grow (w.drewN k) os := Any.strconv_Itoa Tryz.laysM171 n h0 h1 w htab
def Tryz.laysM173_ren : Go.Shelf.Ren := ⟨fun | 173 => 70 | 246 => 91 | 283 => 108 | 284 => 109 | 285 => 110 | 286 => 111 | 129 => 132 | 317 => 131 | 318 => 133 | 319 => 134 | 320 => 135 | 337 => 149 | 338 => 150 | n => n, fun | 2 => 2 | 3 => 3 | 9 => 9 | 4 => 4 | 171 => 143 | 0 => 0 | 53 => 137 | 37 => 36 | 5 => 5 | 173 => 146 | 212 => 168 | 51 => 169 | 20 => 20 | 213 => 170 | 46 => 100 | 232 => 192 | 233 => 193 | n => n, fun | 17 => 2 | 18 => 6 | 19 => 7 | n => n⟩
theorem Tryz.laysM173 : Go.Proofs.LaysM.n173 Tryz.prog Tryz.laysM173_ren := {
 mixed := by kernel_rfl
 f129 := Tryz.func132.trans (congrArg some (by kernel_rfl))
 f173 := Tryz.func70.trans (congrArg some (by kernel_rfl))
 f246 := Tryz.func91.trans (congrArg some (by kernel_rfl))
 f283 := Tryz.func108.trans (congrArg some (by kernel_rfl))
 f284 := Tryz.func109.trans (congrArg some (by kernel_rfl))
 f285 := Tryz.func110.trans (congrArg some (by kernel_rfl))
 f286 := Tryz.func111.trans (congrArg some (by kernel_rfl))
 f317 := Tryz.func131.trans (congrArg some (by kernel_rfl))
 f318 := Tryz.func133.trans (congrArg some (by kernel_rfl))
 f319 := Tryz.func134.trans (congrArg some (by kernel_rfl))
 f320 := Tryz.func135.trans (congrArg some (by kernel_rfl))
 f337 := Tryz.func149.trans (congrArg some (by kernel_rfl))
 f338 := Tryz.func150.trans (congrArg some (by kernel_rfl))
 t0 := Tryz.underlying0
 a0 := Tryz.isAgg0
 z0 := Tryz.sizeOf0
 v0 := Tryz.zeroValue0
 t2 := Tryz.underlying2
 a2 := Tryz.isAgg2
 z2 := Tryz.sizeOf2
 v2 := Tryz.zeroValue2
 t3 := Tryz.underlying3
 a3 := Tryz.isAgg3
 z3 := Tryz.sizeOf3
 v3 := Tryz.zeroValue3
 t4 := Tryz.underlying4
 a4 := Tryz.isAgg4
 z4 := Tryz.sizeOf4
 v4 := Tryz.zeroValue4
 t5 := Tryz.underlying5
 a5 := Tryz.isAgg5
 z5 := Tryz.sizeOf5
 v5 := Tryz.zeroValue5
 t9 := Tryz.underlying9
 a9 := Tryz.isAgg9
 z9 := Tryz.sizeOf9
 v9 := Tryz.zeroValue9
 t20 := Tryz.underlying20
 a20 := Tryz.isAgg20
 z20 := Tryz.sizeOf20
 v20 := Tryz.zeroValue20
 t37 := Tryz.underlying36
 a37 := Tryz.isAgg36
 z37 := Tryz.sizeOf36
 v37 := Tryz.zeroValue36
 t46 := Tryz.underlying100
 a46 := Tryz.isAgg100
 z46 := Tryz.sizeOf100
 v46 := Tryz.zeroValue100
 t51 := Tryz.underlying169
 a51 := Tryz.isAgg169
 z51 := Tryz.sizeOf169
 v51 := Tryz.zeroValue169
 t53 := Tryz.underlying137
 a53 := Tryz.isAgg137
 z53 := Tryz.sizeOf137
 v53 := Tryz.zeroValue137
 t171 := Tryz.underlying143
 a171 := Tryz.isAgg143
 z171 := Tryz.sizeOf143
 v171 := Tryz.zeroValue143
 t173 := Tryz.underlying146
 a173 := Tryz.isAgg146
 z173 := Tryz.sizeOf146
 v173 := Tryz.zeroValue146
 t212 := Tryz.underlying168
 a212 := Tryz.isAgg168
 z212 := Tryz.sizeOf168
 v212 := Tryz.zeroValue168
 t213 := Tryz.underlying170
 a213 := Tryz.isAgg170
 z213 := Tryz.sizeOf170
 t232 := Tryz.underlying192
 a232 := Tryz.isAgg192
 z232 := Tryz.sizeOf192
 v232 := Tryz.zeroValue192
 t233 := Tryz.underlying193
 a233 := Tryz.isAgg193
 z233 := Tryz.sizeOf193
 v233 := Tryz.zeroValue193
 g17 := by kernel_rfl
 g18 := by kernel_rfl
 g19 := by kernel_rfl
 i0 := by kernel_rfl
 i2 := by kernel_rfl
 i3 := by kernel_rfl
 i4 := by kernel_rfl
 i5 := by kernel_rfl
 i9 := by kernel_rfl
 i20 := by kernel_rfl
 i37 := by kernel_rfl
 i46 := by kernel_rfl
 i51 := by kernel_rfl
 i53 := by kernel_rfl
 i171 := by kernel_rfl
 i173 := by kernel_rfl
 i212 := by kernel_rfl
 i232 := by kernel_rfl
 i233 := by kernel_rfl
 m17 := by kernel_rfl
 m18 := by kernel_rfl
 m19 := by kernel_rfl }
open Go.RowKit Go.Sort Go.Lib in
theorem Tryz.strconv_FormatInt_10 (n : Int) (h0 : -9223372036854775808 ≤ n) (h1 : n ≤ 9223372036854775807) (w : World) (htab : Lib.TabIs Tryz.prog w "internal/strconv.uint64pow10" .u64 Lib.pow10Tab) :
  Calls Tryz.prog 70 #[.int .i64 n, .int .i64 10] w fun e w' => e = .returned (.string ⟨(Lib.itoa n).toArray⟩) ∧ ∃ k os, w' = grow (w.drewN k) os := Any.strconv_FormatInt_10 Tryz.laysM173 n h0 h1 w htab
def Tryz.laysC174_ren : Go.Shelf.Ren := ⟨fun | 174 => 66 | 247 => 88 | 245 => 89 | 287 => 103 | 279 => 104 | 280 => 105 | 281 => 106 | 282 => 107 | 321 => 127 | 322 => 128 | 316 => 129 | 171 => 71 | 205 => 130 | 243 => 92 | 246 => 91 | 283 => 108 | 284 => 109 | 285 => 110 | 286 => 111 | 129 => 132 | 317 => 131 | 318 => 133 | 319 => 134 | 320 => 135 | 337 => 149 | 338 => 150 | n => n, fun | 9 => 9 | 3 => 3 | 2 => 2 | 75 => 104 | 85 => 105 | 4 => 4 | 167 => 136 | 5 => 5 | 53 => 137 | 175 => 138 | 46 => 100 | 168 => 140 | 37 => 36 | 0 => 0 | 210 => 164 | 21 => 21 | 127 => 177 | 145 => 180 | 143 => 178 | 171 => 143 | 173 => 146 | 212 => 168 | 51 => 169 | 20 => 20 | 213 => 170 | 232 => 192 | 233 => 193 | 80 => 195 | n => n, fun | 15 => 0 | 16 => 1 | 17 => 2 | 18 => 6 | 19 => 7 | n => n⟩
theorem Tryz.laysC174 : Go.Proofs.LaysC.n174 Tryz.prog Tryz.laysC174_ren := {
 mixed := by kernel_rfl
 f129 := Tryz.func132.trans (congrArg some (by kernel_rfl))
 f171 := Tryz.func71.trans (congrArg some (by kernel_rfl))
 f174 := Tryz.func66.trans (congrArg some (by kernel_rfl))
 f205 := Tryz.func130.trans (congrArg some (by kernel_rfl))
 f243 := Tryz.func92.trans (congrArg some (by kernel_rfl))
 f245 := Tryz.func89.trans (congrArg some (by kernel_rfl))
 f246 := Tryz.func91.trans (congrArg some (by kernel_rfl))
 f247 := Tryz.func88.trans (congrArg some (by kernel_rfl))
 f279 := Tryz.func104.trans (congrArg some (by kernel_rfl))
 f280 := Tryz.func105.trans (congrArg some (by kernel_rfl))
 f281 := Tryz.func106.trans (congrArg some (by kernel_rfl))
 f282 := Tryz.func107.trans (congrArg some (by kernel_rfl))
 f283 := Tryz.func108.trans (congrArg some (by kernel_rfl))
 f284 := Tryz.func109.trans (congrArg some (by kernel_rfl))
 f285 := Tryz.func110.trans (congrArg some (by kernel_rfl))
 f286 := Tryz.func111.trans (congrArg some (by kernel_rfl))
 f287 := Tryz.func103.trans (congrArg some (by kernel_rfl))
 f316 := Tryz.func129.trans (congrArg some (by kernel_rfl))
 f317 := Tryz.func131.trans (congrArg some (by kernel_rfl))
 f318 := Tryz.func133.trans (congrArg some (by kernel_rfl))
 f319 := Tryz.func134.trans (congrArg some (by kernel_rfl))
 f320 := Tryz.func135.trans (congrArg some (by kernel_rfl))
 f321 := Tryz.func127.trans (congrArg some (by kernel_rfl))
 f322 := Tryz.func128.trans (congrArg some (by kernel_rfl))
 f337 := Tryz.func149.trans (congrArg some (by kernel_rfl))
 f338 := Tryz.func150.trans (congrArg some (by kernel_rfl))
 t0 := Tryz.underlying0
 a0 := Tryz.isAgg0
 z0 := Tryz.sizeOf0
 v0 := Tryz.zeroValue0
 t2 := Tryz.underlying2
 a2 := Tryz.isAgg2
 z2 := Tryz.sizeOf2
 v2 := Tryz.zeroValue2
 t3 := Tryz.underlying3
 a3 := Tryz.isAgg3
 z3 := Tryz.sizeOf3
 v3 := Tryz.zeroValue3
 t4 := Tryz.underlying4
 a4 := Tryz.isAgg4
 z4 := Tryz.sizeOf4
 v4 := Tryz.zeroValue4
 t5 := Tryz.underlying5
 a5 := Tryz.isAgg5
 z5 := Tryz.sizeOf5
 v5 := Tryz.zeroValue5
 t9 := Tryz.underlying9
 a9 := Tryz.isAgg9
 z9 := Tryz.sizeOf9
 v9 := Tryz.zeroValue9
 t20 := Tryz.underlying20
 a20 := Tryz.isAgg20
 z20 := Tryz.sizeOf20
 v20 := Tryz.zeroValue20
 t21 := Tryz.underlying21
 a21 := Tryz.isAgg21
 z21 := Tryz.sizeOf21
 v21 := Tryz.zeroValue21
 t37 := Tryz.underlying36
 a37 := Tryz.isAgg36
 z37 := Tryz.sizeOf36
 v37 := Tryz.zeroValue36
 t46 := Tryz.underlying100
 a46 := Tryz.isAgg100
 z46 := Tryz.sizeOf100
 v46 := Tryz.zeroValue100
 t51 := Tryz.underlying169
 a51 := Tryz.isAgg169
 z51 := Tryz.sizeOf169
 v51 := Tryz.zeroValue169
 t53 := Tryz.underlying137
 a53 := Tryz.isAgg137
 z53 := Tryz.sizeOf137
 v53 := Tryz.zeroValue137
 t75 := Tryz.underlying104
 a75 := Tryz.isAgg104
 z75 := Tryz.sizeOf104
 v75 := Tryz.zeroValue104
 t85 := Tryz.underlying105
 a85 := Tryz.isAgg105
 z85 := Tryz.sizeOf105
 v85 := Tryz.zeroValue105
 t127 := Tryz.underlying177
 a127 := Tryz.isAgg177
 z127 := Tryz.sizeOf177
 v127 := Tryz.zeroValue177
 t143 := Tryz.underlying178
 a143 := Tryz.isAgg178
 z143 := Tryz.sizeOf178
 v143 := Tryz.zeroValue178
 t145 := Tryz.underlying180
 a145 := Tryz.isAgg180
 z145 := Tryz.sizeOf180
 v145 := Tryz.zeroValue180
 t167 := Tryz.underlying136
 a167 := Tryz.isAgg136
 z167 := Tryz.sizeOf136
 v167 := Tryz.zeroValue136
 t168 := Tryz.underlying140
 a168 := Tryz.isAgg140
 z168 := Tryz.sizeOf140
 v168 := Tryz.zeroValue140
 t171 := Tryz.underlying143
 a171 := Tryz.isAgg143
 z171 := Tryz.sizeOf143
 v171 := Tryz.zeroValue143
 t173 := Tryz.underlying146
 a173 := Tryz.isAgg146
 z173 := Tryz.sizeOf146
 v173 := Tryz.zeroValue146
 t175 := Tryz.underlying138
 a175 := Tryz.isAgg138
 z175 := Tryz.sizeOf138
 v175 := Tryz.zeroValue138
 t210 := Tryz.underlying164
 a210 := Tryz.isAgg164
 z210 := Tryz.sizeOf164
 v210 := Tryz.zeroValue164
 t212 := Tryz.underlying168
 a212 := Tryz.isAgg168
 z212 := Tryz.sizeOf168
 v212 := Tryz.zeroValue168
 t213 := Tryz.underlying170
 a213 := Tryz.isAgg170
 z213 := Tryz.sizeOf170
 t232 := Tryz.underlying192
 a232 := Tryz.isAgg192
 z232 := Tryz.sizeOf192
 v232 := Tryz.zeroValue192
 t233 := Tryz.underlying193
 a233 := Tryz.isAgg193
 z233 := Tryz.sizeOf193
 v233 := Tryz.zeroValue193
 g15 := by kernel_rfl
 g16 := by kernel_rfl
 g17 := by kernel_rfl
 g18 := by kernel_rfl
 g19 := by kernel_rfl
 t80 := Tryz.underlying195
 a80 := Tryz.isAgg195
 z80 := Tryz.sizeOf195
 v80 := Tryz.zeroValue195
 i0 := by kernel_rfl
 i2 := by kernel_rfl
 i3 := by kernel_rfl
 i4 := by kernel_rfl
 i5 := by kernel_rfl
 i9 := by kernel_rfl
 i20 := by kernel_rfl
 i21 := by kernel_rfl
 i37 := by kernel_rfl
 i46 := by kernel_rfl
 i51 := by kernel_rfl
 i53 := by kernel_rfl
 i75 := by kernel_rfl
 i80 := by kernel_rfl
 i85 := by kernel_rfl
 i127 := by kernel_rfl
 i143 := by kernel_rfl
 i145 := by kernel_rfl
 i167 := by kernel_rfl
 i168 := by kernel_rfl
 i171 := by kernel_rfl
 i173 := by kernel_rfl
 i175 := by kernel_rfl
 i210 := by kernel_rfl
 i212 := by kernel_rfl
 i232 := by kernel_rfl
 i233 := by kernel_rfl
 m15 := by kernel_rfl
 m16 := by kernel_rfl
 m17 := by kernel_rfl
 m18 := by kernel_rfl
 m19 := by kernel_rfl
 c0 := by kernel_rfl
 c2 := by kernel_rfl
 c3 := by kernel_rfl
 c4 := by kernel_rfl
 c5 := by kernel_rfl
 c9 := by kernel_rfl
 c20 := by kernel_rfl
 c21 := by kernel_rfl
 c37 := by kernel_rfl
 c46 := by kernel_rfl
 c51 := by kernel_rfl
 c53 := by kernel_rfl
 c75 := by kernel_rfl
 c80 := by kernel_rfl
 c85 := by kernel_rfl
 c127 := by kernel_rfl
 c143 := by kernel_rfl
 c145 := by kernel_rfl
 c167 := by kernel_rfl
 c168 := by kernel_rfl
 c171 := by kernel_rfl
 c173 := by kernel_rfl
 c175 := by kernel_rfl
 c210 := by kernel_rfl
 c212 := by kernel_rfl
 c213 := by kernel_rfl
 c232 := by kernel_rfl
 c233 := by kernel_rfl }
open Go.RowKit in
theorem Tryz.strconv_ParseInt_10_at64_ok (s : ByteArray) (hmax : s.size ≤ 9223372036854775806) (v : Int) (h : Lib.parseIntB 64 s.data.toList = .ok v) (w : World) :
  Calls Tryz.prog 66 #[.string s, .int .i64 10, .int .i64 64] w fun e w' => e = .returned (.tuple #[.int .i64 v, .nilIface]) ∧ (w' = w ∨ ∃ t, w' = Lib.bytesWorld w 5 t) := Any.strconv_ParseInt_10_at64_ok Tryz.laysC174 s hmax v h w
open Go.RowKit in
theorem Tryz.strconv_ParseInt_10_at64_syntax_var (s : ByteArray) (hlim : s.size ≤ 281474976710656) (h : Lib.parseIntB 64 s.data.toList = Go.Lib.NumEnd.syntax) (tp : TypeId) (p : Value) (w : World) (hvar : w.var? Tryz.prog "strconv.ErrSyntax" = some #[.iface tp p]) :
  Calls Tryz.prog 66 #[.string s, .int .i64 10, .int .i64 64] w fun e w' => ∃ N, e = .returned (.tuple #[.int .i64 (0), .iface 140 (.pointer (some ⟨N, 0, none⟩))]) ∧ w.heap.size ≤ N ∧ w'.heap[N]? = some (.cells #[.string ⟨#[80, 97, 114, 115, 101, 73, 110, 116]⟩, .string s, .iface tp p] 164 (0, 0)) ∧ Below w.heap.size w w' := Any.strconv_ParseInt_10_at64_syntax_var Tryz.laysC174 s hlim h tp p w hvar
open Go.RowKit in
theorem Tryz.strconv_ParseInt_10_at64_range_var (s : ByteArray) (hlim : s.size ≤ 281474976710656) (h : Lib.parseIntB 64 s.data.toList = .range) (tp : TypeId) (p : Value) (w : World) (hvar : w.var? Tryz.prog "strconv.ErrRange" = some #[.iface tp p]) :
  Calls Tryz.prog 66 #[.string s, .int .i64 10, .int .i64 64] w fun e w' => ∃ N, e = .returned (.tuple #[.int .i64 (Lib.intSat 64 s.data.toList), .iface 140 (.pointer (some ⟨N, 0, none⟩))]) ∧ w.heap.size ≤ N ∧ w'.heap[N]? = some (.cells #[.string ⟨#[80, 97, 114, 115, 101, 73, 110, 116]⟩, .string s, .iface tp p] 164 (0, 0)) ∧ Below w.heap.size w w' := Any.strconv_ParseInt_10_at64_range_var Tryz.laysC174 s hlim h tp p w hvar
def Tryz.lays219_ren : Go.Shelf.Ren := ⟨fun | 219 => 126 | 217 => 145 | 225 => 146 | 224 => 147 | 267 => 148 | 266 => 158 | 314 => 159 | n => n, fun | 9 => 9 | 3 => 3 | 4 => 4 | 5 => 5 | 46 => 100 | 146 => 190 | 51 => 169 | n => n, fun | 1 => 3 | n => n⟩
theorem Tryz.lays219 : Go.Proofs.Lays.n219 Tryz.prog Tryz.lays219_ren := {
 mixed := by kernel_rfl
 f217 := Tryz.func145.trans (congrArg some (by kernel_rfl))
 f219 := Tryz.func126.trans (congrArg some (by kernel_rfl))
 f224 := Tryz.func147.trans (congrArg some (by kernel_rfl))
 f225 := Tryz.func146.trans (congrArg some (by kernel_rfl))
 f266 := Tryz.func158.trans (congrArg some (by kernel_rfl))
 f267 := Tryz.func148.trans (congrArg some (by kernel_rfl))
 f314 := Tryz.func159.trans (congrArg some (by kernel_rfl))
 t3 := Tryz.underlying3
 a3 := Tryz.isAgg3
 z3 := Tryz.sizeOf3
 v3 := Tryz.zeroValue3
 t4 := Tryz.underlying4
 a4 := Tryz.isAgg4
 z4 := Tryz.sizeOf4
 v4 := Tryz.zeroValue4
 t5 := Tryz.underlying5
 a5 := Tryz.isAgg5
 z5 := Tryz.sizeOf5
 v5 := Tryz.zeroValue5
 t9 := Tryz.underlying9
 a9 := Tryz.isAgg9
 z9 := Tryz.sizeOf9
 v9 := Tryz.zeroValue9
 t46 := Tryz.underlying100
 a46 := Tryz.isAgg100
 z46 := Tryz.sizeOf100
 v46 := Tryz.zeroValue100
 t51 := Tryz.underlying169
 a51 := Tryz.isAgg169
 z51 := Tryz.sizeOf169
 v51 := Tryz.zeroValue169
 t146 := Tryz.underlying190
 a146 := Tryz.isAgg190
 z146 := Tryz.sizeOf190
 v146 := Tryz.zeroValue190
 g1 := by kernel_rfl }
open Go.RowKit Go.Lib in
theorem Tryz.stringslite_Index_one (s : ByteArray) (c : UInt8) (w : World) :
  Calls Tryz.prog 126 #[.string s, .string ⟨#[c]⟩] w fun e w' => e = .returned (.int .i64 (Lib.indexByte s.data.toList c)) ∧ w' = w := Any.stringslite_Index_one Tryz.lays219 s c w
open Go.RowKit Go.Lib in
theorem Tryz.stringslite_Index (s sub : ByteArray) (m : Int) (w : World) (hs : s.size < 4294967281) (hm : w.cell? ⟨3, 0, none⟩ = some (.int .i64 m)) :
  Calls Tryz.prog 126 #[.string s, .string sub] w fun e w' => e = .returned (.int .i64 (Lib.index s.data.toList sub.data.toList)) ∧ w' = w := Any.stringslite_Index Tryz.lays219 s sub m w hs hm
def Tryz.lays143_ren : Go.Shelf.Ren := ⟨fun | 143 => 102 | 219 => 126 | 217 => 145 | 225 => 146 | 224 => 147 | 267 => 148 | 266 => 158 | 314 => 159 | n => n, fun | 9 => 9 | 3 => 3 | 4 => 4 | 5 => 5 | 46 => 100 | 146 => 190 | 51 => 169 | n => n, fun | 1 => 3 | n => n⟩
theorem Tryz.lays143 : Go.Proofs.Lays.n143 Tryz.prog Tryz.lays143_ren := {
 mixed := by kernel_rfl
 f143 := Tryz.func102.trans (congrArg some (by kernel_rfl))
 f217 := Tryz.func145.trans (congrArg some (by kernel_rfl))
 f219 := Tryz.func126.trans (congrArg some (by kernel_rfl))
 f224 := Tryz.func147.trans (congrArg some (by kernel_rfl))
 f225 := Tryz.func146.trans (congrArg some (by kernel_rfl))
 f266 := Tryz.func158.trans (congrArg some (by kernel_rfl))
 f267 := Tryz.func148.trans (congrArg some (by kernel_rfl))
 f314 := Tryz.func159.trans (congrArg some (by kernel_rfl))
 t3 := Tryz.underlying3
 a3 := Tryz.isAgg3
 z3 := Tryz.sizeOf3
 v3 := Tryz.zeroValue3
 t4 := Tryz.underlying4
 a4 := Tryz.isAgg4
 z4 := Tryz.sizeOf4
 v4 := Tryz.zeroValue4
 t5 := Tryz.underlying5
 a5 := Tryz.isAgg5
 z5 := Tryz.sizeOf5
 v5 := Tryz.zeroValue5
 t9 := Tryz.underlying9
 a9 := Tryz.isAgg9
 z9 := Tryz.sizeOf9
 v9 := Tryz.zeroValue9
 t46 := Tryz.underlying100
 a46 := Tryz.isAgg100
 z46 := Tryz.sizeOf100
 v46 := Tryz.zeroValue100
 t51 := Tryz.underlying169
 a51 := Tryz.isAgg169
 z51 := Tryz.sizeOf169
 v51 := Tryz.zeroValue169
 t146 := Tryz.underlying190
 a146 := Tryz.isAgg190
 z146 := Tryz.sizeOf190
 v146 := Tryz.zeroValue190
 g1 := by kernel_rfl }
open Go.RowKit Go.Lib in
theorem Tryz.strings_Index (s sub : ByteArray) (m : Int) (w : World) (hs : s.size < 4294967281) (hm : w.cell? ⟨3, 0, none⟩ = some (.int .i64 m)) :
  Calls Tryz.prog 102 #[.string s, .string sub] w fun e w' => e = .returned (.int .i64 (Lib.index s.data.toList sub.data.toList)) ∧ w' = w := Any.strings_Index Tryz.lays143 s sub m w hs hm
def Tryz.lays145_ren : Go.Shelf.Ren := ⟨fun | 145 => 140 | 220 => 154 | 219 => 126 | 217 => 145 | 225 => 146 | 224 => 147 | 267 => 148 | 266 => 158 | 314 => 159 | n => n, fun | 9 => 9 | 4 => 4 | 59 => 174 | 3 => 3 | 5 => 5 | 46 => 100 | 146 => 190 | 51 => 169 | n => n, fun | 1 => 3 | n => n⟩
theorem Tryz.lays145 : Go.Proofs.Lays.n145 Tryz.prog Tryz.lays145_ren := {
 mixed := by kernel_rfl
 f145 := Tryz.func140.trans (congrArg some (by kernel_rfl))
 f217 := Tryz.func145.trans (congrArg some (by kernel_rfl))
 f219 := Tryz.func126.trans (congrArg some (by kernel_rfl))
 f220 := Tryz.func154.trans (congrArg some (by kernel_rfl))
 f224 := Tryz.func147.trans (congrArg some (by kernel_rfl))
 f225 := Tryz.func146.trans (congrArg some (by kernel_rfl))
 f266 := Tryz.func158.trans (congrArg some (by kernel_rfl))
 f267 := Tryz.func148.trans (congrArg some (by kernel_rfl))
 f314 := Tryz.func159.trans (congrArg some (by kernel_rfl))
 t3 := Tryz.underlying3
 a3 := Tryz.isAgg3
 z3 := Tryz.sizeOf3
 v3 := Tryz.zeroValue3
 t4 := Tryz.underlying4
 a4 := Tryz.isAgg4
 z4 := Tryz.sizeOf4
 v4 := Tryz.zeroValue4
 t5 := Tryz.underlying5
 a5 := Tryz.isAgg5
 z5 := Tryz.sizeOf5
 v5 := Tryz.zeroValue5
 t9 := Tryz.underlying9
 a9 := Tryz.isAgg9
 z9 := Tryz.sizeOf9
 v9 := Tryz.zeroValue9
 t46 := Tryz.underlying100
 a46 := Tryz.isAgg100
 z46 := Tryz.sizeOf100
 v46 := Tryz.zeroValue100
 t51 := Tryz.underlying169
 a51 := Tryz.isAgg169
 z51 := Tryz.sizeOf169
 v51 := Tryz.zeroValue169
 t59 := Tryz.underlying174
 a59 := Tryz.isAgg174
 z59 := Tryz.sizeOf174
 v59 := Tryz.zeroValue174
 t146 := Tryz.underlying190
 a146 := Tryz.isAgg190
 z146 := Tryz.sizeOf190
 v146 := Tryz.zeroValue190
 g1 := by kernel_rfl }
open Go.RowKit Go.Lib in
theorem Tryz.strings_Cut (s sep : ByteArray) (m : Int) (w : World) (hs : s.size < 4294967281) (hm : w.cell? ⟨3, 0, none⟩ = some (.int .i64 m)) :
  Calls Tryz.prog 140 #[.string s, .string sep] w fun e w' => e = .returned (.tuple #[.string ⟨(Lib.cut s.data.toList sep.data.toList).1.toArray⟩, .string ⟨(Lib.cut s.data.toList sep.data.toList).2.1.toArray⟩, .bool (Lib.cut s.data.toList sep.data.toList).2.2]) ∧ ∃ n, w' = w.drewN n := Any.strings_Cut Tryz.lays145 s sep m w hs hm
def Tryz.lays138_ren : Go.Shelf.Ren := ⟨fun | 138 => 101 | 195 => 123 | 218 => 125 | 143 => 102 | 219 => 126 | 217 => 145 | 225 => 146 | 224 => 147 | 267 => 148 | 266 => 158 | 314 => 159 | n => n, fun | 9 => 9 | 3 => 3 | 4 => 4 | 5 => 5 | 0 => 0 | 46 => 100 | 146 => 190 | 51 => 169 | n => n, fun | 1 => 3 | n => n⟩
theorem Tryz.lays138 : Go.Proofs.Lays.n138 Tryz.prog Tryz.lays138_ren := {
 mixed := by kernel_rfl
 f138 := Tryz.func101.trans (congrArg some (by kernel_rfl))
 f143 := Tryz.func102.trans (congrArg some (by kernel_rfl))
 f195 := Tryz.func123.trans (congrArg some (by kernel_rfl))
 f217 := Tryz.func145.trans (congrArg some (by kernel_rfl))
 f218 := Tryz.func125.trans (congrArg some (by kernel_rfl))
 f219 := Tryz.func126.trans (congrArg some (by kernel_rfl))
 f224 := Tryz.func147.trans (congrArg some (by kernel_rfl))
 f225 := Tryz.func146.trans (congrArg some (by kernel_rfl))
 f266 := Tryz.func158.trans (congrArg some (by kernel_rfl))
 f267 := Tryz.func148.trans (congrArg some (by kernel_rfl))
 f314 := Tryz.func159.trans (congrArg some (by kernel_rfl))
 t0 := Tryz.underlying0
 a0 := Tryz.isAgg0
 z0 := Tryz.sizeOf0
 v0 := Tryz.zeroValue0
 t3 := Tryz.underlying3
 a3 := Tryz.isAgg3
 z3 := Tryz.sizeOf3
 v3 := Tryz.zeroValue3
 t4 := Tryz.underlying4
 a4 := Tryz.isAgg4
 z4 := Tryz.sizeOf4
 v4 := Tryz.zeroValue4
 t5 := Tryz.underlying5
 a5 := Tryz.isAgg5
 z5 := Tryz.sizeOf5
 v5 := Tryz.zeroValue5
 t9 := Tryz.underlying9
 a9 := Tryz.isAgg9
 z9 := Tryz.sizeOf9
 v9 := Tryz.zeroValue9
 t46 := Tryz.underlying100
 a46 := Tryz.isAgg100
 z46 := Tryz.sizeOf100
 v46 := Tryz.zeroValue100
 t51 := Tryz.underlying169
 a51 := Tryz.isAgg169
 z51 := Tryz.sizeOf169
 v51 := Tryz.zeroValue169
 t146 := Tryz.underlying190
 a146 := Tryz.isAgg190
 z146 := Tryz.sizeOf190
 v146 := Tryz.zeroValue190
 g1 := by kernel_rfl }
open Go.RowKit Go.Lib in
theorem Tryz.strings_Count_one (s : ByteArray) (c : UInt8) (w : World) :
  Calls Tryz.prog 101 #[.string s, .string ⟨#[c]⟩] w fun e w' => e = .returned (.int .i64 (Lib.countByte s.data.toList c)) ∧ w' = w := Any.strings_Count_one Tryz.lays138 s c w
open Go.RowKit Go.Lib in
theorem Tryz.strings_Count (s sub : ByteArray) (m : Int) (w : World) (hs : s.size < 4294967281) (hm : w.cell? ⟨3, 0, none⟩ = some (.int .i64 m)) (h2 : 2 ≤ sub.size) :
  Calls Tryz.prog 101 #[.string s, .string sub] w fun e w' => e = .returned (.int .i64 (Lib.countB s sub)) ∧ w' = w := Any.strings_Count Tryz.lays138 s sub m w hs hm h2
def Tryz.lays99_ren : Go.Shelf.Ren := ⟨fun | 99 => 155 | 206 => 153 | n => n, fun | 9 => 9 | 4 => 4 | 3 => 3 | n => n, fun | n => n⟩
theorem Tryz.lays99 : Go.Proofs.Lays.n99 Tryz.prog Tryz.lays99_ren := {
 mixed := by kernel_rfl
 f99 := Tryz.func155.trans (congrArg some (by kernel_rfl))
 f206 := Tryz.func153.trans (congrArg some (by kernel_rfl))
 t3 := Tryz.underlying3
 a3 := Tryz.isAgg3
 z3 := Tryz.sizeOf3
 v3 := Tryz.zeroValue3
 t4 := Tryz.underlying4
 a4 := Tryz.isAgg4
 z4 := Tryz.sizeOf4
 v4 := Tryz.zeroValue4
 t9 := Tryz.underlying9
 a9 := Tryz.isAgg9
 z9 := Tryz.sizeOf9
 v9 := Tryz.zeroValue9 }
open Go.RowKit Go.Lib in
theorem Tryz.strings_HasPrefix (s p : ByteArray) (w : World) :
  Calls Tryz.prog 155 #[.string s, .string p] w fun e w' => e = .returned (.bool (Lib.hasPrefix s.data.toList p.data.toList)) ∧ w' = w := Any.strings_HasPrefix Tryz.lays99 s p w
def Tryz.lays101_ren : Go.Shelf.Ren := ⟨fun | 101 => 119 | 208 => 139 | 206 => 153 | n => n, fun | 9 => 9 | 4 => 4 | 3 => 3 | n => n, fun | n => n⟩
theorem Tryz.lays101 : Go.Proofs.Lays.n101 Tryz.prog Tryz.lays101_ren := {
 mixed := by kernel_rfl
 f101 := Tryz.func119.trans (congrArg some (by kernel_rfl))
 f206 := Tryz.func153.trans (congrArg some (by kernel_rfl))
 f208 := Tryz.func139.trans (congrArg some (by kernel_rfl))
 t3 := Tryz.underlying3
 a3 := Tryz.isAgg3
 z3 := Tryz.sizeOf3
 v3 := Tryz.zeroValue3
 t4 := Tryz.underlying4
 a4 := Tryz.isAgg4
 z4 := Tryz.sizeOf4
 v4 := Tryz.zeroValue4
 t9 := Tryz.underlying9
 a9 := Tryz.isAgg9
 z9 := Tryz.sizeOf9
 v9 := Tryz.zeroValue9 }
open Go.RowKit Go.Lib in
theorem Tryz.strings_TrimPrefix (s p : ByteArray) (w : World) :
  Calls Tryz.prog 119 #[.string s, .string p] w fun e w' => e = .returned (.string ⟨(Lib.trimPrefix s.data.toList p.data.toList).toArray⟩) ∧ w' = w := Any.strings_TrimPrefix Tryz.lays101 s p w
def Tryz.lays221_ren : Go.Shelf.Ren := ⟨fun | 221 => 87 | 268 => 100 | 138 => 101 | 143 => 102 | 195 => 123 | 197 => 124 | 218 => 125 | 219 => 126 | 260 => 144 | 217 => 145 | 225 => 146 | 224 => 147 | 267 => 148 | 266 => 158 | 314 => 159 | n => n, fun | 9 => 9 | 3 => 3 | 31 => 42 | 4 => 4 | 0 => 0 | 105 => 159 | 21 => 21 | 5 => 5 | 46 => 100 | 119 => 186 | 139 => 189 | 138 => 188 | 146 => 190 | 51 => 169 | n => n, fun | 1 => 3 | 3 => 4 | 4 => 5 | n => n⟩
theorem Tryz.lays221 : Go.Proofs.Lays.n221 Tryz.prog Tryz.lays221_ren := {
 mixed := by kernel_rfl
 f138 := Tryz.func101.trans (congrArg some (by kernel_rfl))
 f143 := Tryz.func102.trans (congrArg some (by kernel_rfl))
 f195 := Tryz.func123.trans (congrArg some (by kernel_rfl))
 f197 := Tryz.func124.trans (congrArg some (by kernel_rfl))
 f217 := Tryz.func145.trans (congrArg some (by kernel_rfl))
 f218 := Tryz.func125.trans (congrArg some (by kernel_rfl))
 f219 := Tryz.func126.trans (congrArg some (by kernel_rfl))
 f221 := Tryz.func87.trans (congrArg some (by kernel_rfl))
 f224 := Tryz.func147.trans (congrArg some (by kernel_rfl))
 f225 := Tryz.func146.trans (congrArg some (by kernel_rfl))
 f260 := Tryz.func144.trans (congrArg some (by kernel_rfl))
 f266 := Tryz.func158.trans (congrArg some (by kernel_rfl))
 f267 := Tryz.func148.trans (congrArg some (by kernel_rfl))
 f268 := Tryz.func100.trans (congrArg some (by kernel_rfl))
 f314 := Tryz.func159.trans (congrArg some (by kernel_rfl))
 t0 := Tryz.underlying0
 a0 := Tryz.isAgg0
 z0 := Tryz.sizeOf0
 v0 := Tryz.zeroValue0
 t3 := Tryz.underlying3
 a3 := Tryz.isAgg3
 z3 := Tryz.sizeOf3
 v3 := Tryz.zeroValue3
 t4 := Tryz.underlying4
 a4 := Tryz.isAgg4
 z4 := Tryz.sizeOf4
 v4 := Tryz.zeroValue4
 t5 := Tryz.underlying5
 a5 := Tryz.isAgg5
 z5 := Tryz.sizeOf5
 v5 := Tryz.zeroValue5
 t9 := Tryz.underlying9
 a9 := Tryz.isAgg9
 z9 := Tryz.sizeOf9
 v9 := Tryz.zeroValue9
 t21 := Tryz.underlying21
 a21 := Tryz.isAgg21
 z21 := Tryz.sizeOf21
 v21 := Tryz.zeroValue21
 t31 := Tryz.underlying42
 a31 := Tryz.isAgg42
 z31 := Tryz.sizeOf42
 v31 := Tryz.zeroValue42
 t46 := Tryz.underlying100
 a46 := Tryz.isAgg100
 z46 := Tryz.sizeOf100
 v46 := Tryz.zeroValue100
 t51 := Tryz.underlying169
 a51 := Tryz.isAgg169
 z51 := Tryz.sizeOf169
 v51 := Tryz.zeroValue169
 t105 := Tryz.underlying159
 a105 := Tryz.isAgg159
 z105 := Tryz.sizeOf159
 v105 := Tryz.zeroValue159
 t119 := Tryz.underlying186
 a119 := Tryz.isAgg186
 z119 := Tryz.sizeOf186
 t138 := Tryz.underlying188
 a138 := Tryz.isAgg188
 z138 := Tryz.sizeOf188
 v138 := Tryz.zeroValue188
 t139 := Tryz.underlying189
 a139 := Tryz.isAgg189
 z139 := Tryz.sizeOf189
 v139 := Tryz.zeroValue189
 t146 := Tryz.underlying190
 a146 := Tryz.isAgg190
 z146 := Tryz.sizeOf190
 v146 := Tryz.zeroValue190
 g1 := by kernel_rfl
 g3 := by kernel_rfl
 g4 := by kernel_rfl }
open Go.RowKit Go.Lib in
theorem Tryz.strings_genSplit (s sep : ByteArray) (sv : Nat) (n : Int) (N : Nat) (m : Int) (w : World) (hs : s.size < 4294967281) (hm : w.cell? ⟨3, 0, none⟩ = some (.int .i64 m)) (h1 : 1 ≤ sep.size) (hsv : sv ≤ sep.size) (hn0 : n ≠ 0) (hn63 : n ≤ 9223372036854775807) (hN : (N : Int) = min (if n < 0 then (Lib.countB s sep : Int) + 1 else n) ((s.size : Int) + 1)) :
  Calls Tryz.prog 87 #[.string s, .string sep, .int .i64 sv, .int .i64 n] w fun e w' =>
   e = .returned (.slice (some ⟨w.heap.size, 0, none⟩) (Lib.splitB sep sv (N - 1) s).length N) ∧ w' = w.alloc (.cells (Lib.cellsOf (Lib.splitB sep sv (N - 1) s) N) 9) := Any.strings_genSplit Tryz.lays221 (by kernel_rfl) s sep sv n N m w hs hm h1 hsv hn0 hn63 hN
def Tryz.lays146_ren : Go.Shelf.Ren := ⟨fun | 146 => 65 | 221 => 87 | 268 => 100 | 138 => 101 | 143 => 102 | 195 => 123 | 197 => 124 | 218 => 125 | 219 => 126 | 260 => 144 | 217 => 145 | 225 => 146 | 224 => 147 | 267 => 148 | 266 => 158 | 314 => 159 | n => n, fun | 9 => 9 | 31 => 42 | 3 => 3 | 4 => 4 | 0 => 0 | 105 => 159 | 21 => 21 | 5 => 5 | 46 => 100 | 119 => 186 | 139 => 189 | 138 => 188 | 146 => 190 | 51 => 169 | n => n, fun | 1 => 3 | 3 => 4 | 4 => 5 | n => n⟩
theorem Tryz.lays146 : Go.Proofs.Lays.n146 Tryz.prog Tryz.lays146_ren := {
 mixed := by kernel_rfl
 f138 := Tryz.func101.trans (congrArg some (by kernel_rfl))
 f143 := Tryz.func102.trans (congrArg some (by kernel_rfl))
 f146 := Tryz.func65.trans (congrArg some (by kernel_rfl))
 f195 := Tryz.func123.trans (congrArg some (by kernel_rfl))
 f197 := Tryz.func124.trans (congrArg some (by kernel_rfl))
 f217 := Tryz.func145.trans (congrArg some (by kernel_rfl))
 f218 := Tryz.func125.trans (congrArg some (by kernel_rfl))
 f219 := Tryz.func126.trans (congrArg some (by kernel_rfl))
 f221 := Tryz.func87.trans (congrArg some (by kernel_rfl))
 f224 := Tryz.func147.trans (congrArg some (by kernel_rfl))
 f225 := Tryz.func146.trans (congrArg some (by kernel_rfl))
 f260 := Tryz.func144.trans (congrArg some (by kernel_rfl))
 f266 := Tryz.func158.trans (congrArg some (by kernel_rfl))
 f267 := Tryz.func148.trans (congrArg some (by kernel_rfl))
 f268 := Tryz.func100.trans (congrArg some (by kernel_rfl))
 f314 := Tryz.func159.trans (congrArg some (by kernel_rfl))
 t0 := Tryz.underlying0
 a0 := Tryz.isAgg0
 z0 := Tryz.sizeOf0
 v0 := Tryz.zeroValue0
 t3 := Tryz.underlying3
 a3 := Tryz.isAgg3
 z3 := Tryz.sizeOf3
 v3 := Tryz.zeroValue3
 t4 := Tryz.underlying4
 a4 := Tryz.isAgg4
 z4 := Tryz.sizeOf4
 v4 := Tryz.zeroValue4
 t5 := Tryz.underlying5
 a5 := Tryz.isAgg5
 z5 := Tryz.sizeOf5
 v5 := Tryz.zeroValue5
 t9 := Tryz.underlying9
 a9 := Tryz.isAgg9
 z9 := Tryz.sizeOf9
 v9 := Tryz.zeroValue9
 t21 := Tryz.underlying21
 a21 := Tryz.isAgg21
 z21 := Tryz.sizeOf21
 v21 := Tryz.zeroValue21
 t31 := Tryz.underlying42
 a31 := Tryz.isAgg42
 z31 := Tryz.sizeOf42
 v31 := Tryz.zeroValue42
 t46 := Tryz.underlying100
 a46 := Tryz.isAgg100
 z46 := Tryz.sizeOf100
 v46 := Tryz.zeroValue100
 t51 := Tryz.underlying169
 a51 := Tryz.isAgg169
 z51 := Tryz.sizeOf169
 v51 := Tryz.zeroValue169
 t105 := Tryz.underlying159
 a105 := Tryz.isAgg159
 z105 := Tryz.sizeOf159
 v105 := Tryz.zeroValue159
 t119 := Tryz.underlying186
 a119 := Tryz.isAgg186
 z119 := Tryz.sizeOf186
 t138 := Tryz.underlying188
 a138 := Tryz.isAgg188
 z138 := Tryz.sizeOf188
 v138 := Tryz.zeroValue188
 t139 := Tryz.underlying189
 a139 := Tryz.isAgg189
 z139 := Tryz.sizeOf189
 v139 := Tryz.zeroValue189
 t146 := Tryz.underlying190
 a146 := Tryz.isAgg190
 z146 := Tryz.sizeOf190
 v146 := Tryz.zeroValue190
 g1 := by kernel_rfl
 g3 := by kernel_rfl
 g4 := by kernel_rfl }
open Go.RowKit Go.Lib in
theorem Tryz.strings_Split (s sep : ByteArray) (m : Int) (w : World) (hs : s.size < 4294967281) (hm : w.cell? ⟨3, 0, none⟩ = some (.int .i64 m)) (h1 : 1 ≤ sep.size) :
  Calls Tryz.prog 65 #[.string s, .string sep] w fun e w' =>
   e = .returned (.slice (some ⟨w.heap.size, 0, none⟩) (Lib.countB s sep + 1) (Lib.countB s sep + 1)) ∧ w' = w.alloc (.cells ((Lib.splitB sep 0 (Lib.countB s sep) s).map Value.string).toArray 9) := Any.strings_Split Tryz.lays146 (by kernel_rfl) s sep m w hs hm h1
def Tryz.laysSlE041_f42_ren : Go.Shelf.Ren := ⟨fun | 41 => 42 | n => n, fun | 22 => 42 | 23 => 9 | 4 => 4 | n => n, fun | n => n⟩
theorem Tryz.laysSlE041_f42 : Go.Proofs.SlLaysE0.n41 Tryz.prog Tryz.laysSlE041_f42_ren := {
 mixed := by kernel_rfl
 f41 := ⟨Tryz.f42.name, by decide, Tryz.func42.trans (congrArg some (by kernel_rfl))⟩
 t4 := Tryz.underlying4
 a4 := Tryz.isAgg4
 z4 := Tryz.sizeOf4
 v4 := Tryz.zeroValue4
 t22 := Tryz.underlying42
 a22 := Tryz.isAgg42
 z22 := Tryz.sizeOf42
 v22 := Tryz.zeroValue42 }
open Go.RowKit Go.Lib in
theorem Tryz.slices_Clone (i0 : TypeInfo) (z : Value) (size bytes : Nat) (hi : Tryz.prog.info? 9 = some i0) (hz0 : i0.zero = some z) (hz1 : i0.size = size) (hz2 : i0.bytes = bytes) (hzs : z.cells.size = size) (hsz : 0 < size) (z23 : ∀ w, (Go.sizeOf 9).run Tryz.prog w = .ok size w) (b off n c : Nat) (news : List Value) (w : World) (hl : news.length = n * size) (hn : n ≤ maxLen) (hbig : n * bytes ≤ 140737488355328) (hc : ∀ j u, news[j]? = some u → w.cell? ⟨b, off + j, none⟩ = some u) (h1 : ∀ u ∈ news, u.oneCell' = true) :
  Calls Tryz.prog 42 #[.slice (some ⟨b, off, none⟩) n c] w fun e w' => ∃ v', e = .returned v' ∧ w'.ownsRow w.heap.size 9 size v' n news ∧ v' ≠ .slice none 0 0 ∧ Below w.heap.size w w' := AnyE.slices_Clone Tryz.laysSlE041_f42 i0 z size bytes hi hz0 hz1 hz2 hzs hsz z23 b off n c news w hl hn hbig hc h1
open Go.RowKit Go.Lib in
theorem Tryz.slices_Clone_nil (n c : Nat) (w : World) :
  Calls Tryz.prog 42 #[.slice none n c] w fun e w' => e = .returned (.slice none 0 0) ∧ w' = w := AnyE.slices_Clone_nil Tryz.laysSlE041_f42 n c w
end Go.Proofs
end
section
set_option linter.unusedVariables false
set_option linter.unusedSimpArgs false
namespace Go.Gp
open Go.Vd Go.RowKit Go.Proofs
theorem JY (N : Nat) (s : List UInt8) (c : UInt8) (r : Int) (h : strings_IndexByte N s c = some r) : Sat Tryz.prog 156 AC [.str s, eb c] (.int .i64 r) AC := by
 cases h
 refine bJ (vs := [.string ⟨s.toArray⟩, .int .u8 (c.toNat : Int)]) rfl rfl fun w => ?_
 have h := Tryz.strings_IndexByte ⟨s.toArray⟩ (c.toNat : Int) w
 have e : ((c.toNat : Int)).toNat.toUInt8 = c := by simp
 rw [e] at h
 exact h
theorem O8 (N : Nat) (s p : List UInt8) (r : Int) (h : stringslite_Index N s p = some r) : Sat Tryz.prog 126 AC [.str s, .str p] (.int .i64 r) AC := by
 obtain ⟨c, rfl, rfl⟩ := UR h
 exact bJ (vs := [.string ⟨s.toArray⟩, .string ⟨#[c]⟩]) rfl rfl fun w => Tryz.stringslite_Index_one ⟨s.toArray⟩ c w
theorem XU (N : Nat) (s p : List UInt8) (r : Int) (h : strings_Count N s p = some r) : Sat Tryz.prog 101 AC [.str s, .str p] (.int .i64 r) AC := by
 obtain ⟨c, rfl, rfl⟩ := XQ h
 exact bJ (vs := [.string ⟨s.toArray⟩, .string ⟨#[c]⟩]) rfl rfl fun w => Tryz.strings_Count_one ⟨s.toArray⟩ c w
theorem UT (N : Nat) (n b : Int) (r : List UInt8) (h : IM N n b = some r) : Sat Tryz.prog 70 AC [.int .i64 n, .int .i64 b] (.str r) AC :=
 Bg (fun n h0 h1 w hw => Tryz.strconv_FormatInt_10 n h0 h1 w (show Laid w from hw).tab) h
theorem SV (N : Nat) (n : Int) (r : List UInt8) (h : strconv_Itoa N n = some r) : Sat Tryz.prog 71 AC [.int .i64 n] (.str r) AC :=
 vK (fun n h0 h1 w hw => Tryz.strconv_Itoa n h0 h1 w (show Laid w from hw).tab) h
theorem UY (N : Nat) (s : List UInt8) (b k : Int) (r : Int × Bool) (h : L6 N s b k = some r) : Sat Tryz.prog 66 AC [.str s, .int .i64 b, .int .i64 k] (.tup [.int .i64 r.1, eErr 140 r.2]) AC := by
 refine vJ (fun s v hs hv w => Tryz.strconv_ParseInt_10_at64_ok s (by omega) v hv w) (fun s hs hv w hw => ?_) (fun s hs hv w hw => ?_) h
 ·obtain ⟨tp, p, hk⟩ := (show Laid w from hw).syn
  refine (Tryz.strconv_ParseInt_10_at64_syntax_var s hs hv tp p w hk).mono ?_
  rintro e w' ⟨N, h1, _, _, h2⟩
  exact ⟨N, h1, h2⟩
 ·obtain ⟨tp, p, hk⟩ := (show Laid w from hw).ran
  refine (Tryz.strconv_ParseInt_10_at64_range_var s hs hv tp p w hk).mono ?_
  rintro e w' ⟨N, h1, _, _, h2⟩
  exact ⟨N, h1, h2⟩
end Go.Gp
end
section
set_option linter.unusedVariables false
set_option linter.unusedSimpArgs false
set_option maxRecDepth 4000
set_option maxHeartbeats 4000000
namespace Go.Gp
open Go.Vd Go.RowKit Go.Proofs
def k154 : IC := (.seq (.reg [jc 4 (.str []), jc 5 (.str []), jc 6 (.bool false)]) (.seq (.seq (.reg [jm 8 0, jm 9 1, jn 10 (.call 126 [(.t 8), (.t 9)]), jm 7 10]) (.seq (.reg [jm 11 7, ju .geq 12 11 0]) (.cond (.t 12) (.seq (.regd 12 [jm 13 0, jm 14 7, jn 15 (.slcs (.t 13) none (some (.t 14))), jm 16 0, jm 17 7, jm 18 1, jS 19 18, jb .add 20 17 19, jn 21 (.slcs (.t 16) (some (.t 20)) none), jm 4 15, jm 5 21, jc 6 (.bool true)]) .ret) .skip))) (.seq (.reg [jm 22 0, jm 4 22, jc 5 (.str []), jc 6 (.bool false)]) .ret)))
theorem Cj : C9 Tryz.prog Tryz.f154 = some ⟨23, k154, [(.tmp 4), (.tmp 5), (.tmp 6)]⟩ := by kernel_rfl
theorem PK (N : Nat) (a0 : List UInt8) (a1 : List UInt8) (r : List UInt8 × List UInt8 × Bool) (h : IX N a0 a1 = some r) : Sat Tryz.prog 154 AC [.str a0, .str a1] (.tup [.str r.1, .str r.2.1, .bool r.2.2]) AC := by
 refine EO mixed Tryz.func154 Cj (rs := [.str r.1, .str r.2.1, .bool r.2.2]) rfl rfl ?_
 refine AA (AB ?_)
 iterate 3 refine wq rfl ?_
 iterate 2 refine AA ?_
 refine AB ?_
 iterate 2 refine wq rfl ?_
 obtain ⟨PI, U4, h⟩ := AQ h
 refine CX rfl (CZ (O8 N _ _ _ U4) rfl (.cons A8 (.cons A8 .nil)) rfl rfl rfl) ?_
 refine wq rfl ?_
 refine AA (AB ?_)
 iterate 2 refine wq rfl ?_
 refine EN h rfl (fun c1 h => ?_) (fun c1 h => ?_)
 refine AA (Q8 ?_)
 iterate 2 refine dq rfl ?_
 obtain ⟨W9, WY, h⟩ := AQ h
 refine LM rfl (iP WY rfl rfl) ?_
 iterate 4 refine dq rfl ?_
 refine LM (p := j6 (CE (PI + (a1.length : Int)))) rfl rfl ?_
 obtain ⟨XF, dC, h⟩ := AQ h
 refine LM rfl (bW dC rfl rfl) ?_
 iterate 3 refine dq rfl ?_
 cases AP h
 refine BZ ?_
 exact ⟨nofun, rfl, rfl⟩
 refine BH (AA (AB ?_))
 iterate 4 refine wq rfl ?_
 cases AP h
 refine BZ ?_
 exact ⟨nofun, rfl, rfl⟩
def k140 : IC := (.seq (.reg [jc 4 (.str []), jc 5 (.str []), jc 6 (.bool false)]) (.seq (.reg [jm 7 0, jm 8 1, jn 9 (.call 154 [(.t 7), (.t 8)]), je 10 0 9, je 11 1 9, je 12 2 9, jm 4 10, jm 5 11, jm 6 12]) .ret))
theorem Cn : C9 Tryz.prog Tryz.f140 = some ⟨13, k140, [(.tmp 4), (.tmp 5), (.tmp 6)]⟩ := by kernel_rfl
theorem aH (N : Nat) (a0 : List UInt8) (a1 : List UInt8) (r : List UInt8 × List UInt8 × Bool) (h : strings_Cut N a0 a1 = some r) : Sat Tryz.prog 140 AC [.str a0, .str a1] (.tup [.str r.1, .str r.2.1, .bool r.2.2]) AC := by
 refine EO mixed Tryz.func140 Cn (rs := [.str r.1, .str r.2.1, .bool r.2.2]) rfl rfl ?_
 refine AA (AB ?_)
 iterate 3 refine wq rfl ?_
 refine AA (AB ?_)
 iterate 2 refine wq rfl ?_
 obtain ⟨x9, Dc, h⟩ := AQ h
 refine CX rfl (CZ (PK N _ _ _ Dc) rfl (.cons A8 (.cons A8 .nil)) rfl rfl rfl) ?_
 iterate 6 refine wq rfl ?_
 cases AP h
 refine BZ ?_
 exact ⟨nofun, rfl, rfl⟩
def k155 : IC := (.seq (.reg [jc 4 (.bool false)]) (.seq (.reg [jm 5 0, jm 6 1, jn 7 (.call 153 [(.t 5), (.t 6)]), jm 4 7]) .ret))
theorem Ci : C9 Tryz.prog Tryz.f155 = some ⟨8, k155, [(.tmp 4)]⟩ := by kernel_rfl
theorem O9 (N : Nat) (a0 : List UInt8) (a1 : List UInt8) (r : Bool) (h : strings_HasPrefix N a0 a1 = some r) : Sat Tryz.prog 155 AC [.str a0, .str a1] (.bool r) AC := by
 refine EO mixed Tryz.func155 Ci (rs := [.bool r]) rfl rfl ?_
 refine AA (AB ?_)
 refine wq rfl ?_
 refine AA (AB ?_)
 iterate 2 refine wq rfl ?_
 obtain ⟨x7, hx7, h⟩ := AQ h
 refine CX rfl (CZ (HZ N _ _ _ hx7) rfl (.cons A8 (.cons A8 .nil)) rfl rfl rfl) ?_
 refine wq rfl ?_
 obtain rfl := AP h
 refine BZ ?_
 exact ⟨nofun, rfl, rfl⟩
def k157 : IC := (.seq (.reg [jc 4 (.int .u8 0), jc 5 (.bool false)]) (.seq (.seq (.reg [jm 7 1, jm 8 0, jS 9 8, jb .geq 10 7 9]) (.cond (.t 10) (.seq (.reg [jc 4 (.int .u8 0), jc 5 (.bool false)]) .ret) .skip)) (.seq (.reg [jm 11 0, jm 12 1, jm 13 1, ju .add 14 13 1, jn 15 (.slcs (.t 11) (some (.t 12)) (some (.t 14))), jn 16 (.call 78 [(.t 15)]), jn 17 (.idxs (.t 16) (ji 0)), jn 18 (.call 156 [(.c (.str [48, 49, 50, 51, 52, 53, 54, 55, 56, 57, 97, 98, 99, 100, 101, 102])), (.t 17)]), jm 6 18]) (.seq (.reg [jm 19 6, jn 20 (.mm true (.t 19) [(ji 0)]), jn 21 (.cvi .u8 (.t 20)), jm 22 6, ju .geq 23 22 0, jm 4 21, jm 5 23]) .ret))))
theorem Ch : C9 Tryz.prog Tryz.f157 = some ⟨24, k157, [(.tmp 4), (.tmp 5)]⟩ := by kernel_rfl
theorem XV (N : Nat) (a0 : List UInt8) (a1 : Int) (r : UInt8 × Bool) (h : QM N a0 a1 = some r) : Sat Tryz.prog 157 AC [.str a0, j6 a1] (.tup [eb r.1, .bool r.2]) AC := by
 refine EO mixed Tryz.func157 Ch (rs := [eb r.1, .bool r.2]) rfl rfl ?_
 refine AA (AB ?_)
 iterate 2 refine wq rfl ?_
 iterate 2 refine AA ?_
 refine AB ?_
 iterate 4 refine wq rfl ?_
 refine EN h rfl (fun c1 h => ?_) (fun c1 h => ?_)
 refine AA (AB ?_)
 iterate 2 refine wq rfl ?_
 cases AP h
 refine BZ ?_
 exact ⟨nofun, rfl, rfl⟩
 refine BH (AA (AB ?_))
 iterate 3 refine wq rfl ?_
 refine AY (p := j6 (CE (a1 + (1 : Int)))) rfl rfl ?_
 obtain ⟨W9, WY, h⟩ := AQ h
 refine AY rfl (kK WY rfl rfl rfl) ?_
 obtain ⟨YM, hx16, h⟩ := AQ h
 refine CX rfl (CZ (TU N _ _ hx16) rfl (.cons A8 .nil) rfl rfl rfl) ?_
 obtain ⟨EA, U3, h⟩ := AQ h
 refine AY rfl (P6 U3 rfl rfl) ?_
 obtain ⟨aB, j4, h⟩ := AQ h
 refine CX rfl (CZ (JY N _ _ _ j4) rfl (.cons A8 (.cons A8 .nil)) rfl rfl rfl) ?_
 refine wq rfl ?_
 refine AA (AB ?_)
 refine wq rfl ?_
 refine AY (p := j6 (mx aB (0 : Int))) rfl rfl ?_
 refine AY rfl (WW rfl) ?_
 iterate 4 refine wq rfl ?_
 cases AP h
 refine BZ ?_
 exact ⟨nofun, rfl, rfl⟩
def kX : IC := (.seq (.seq (.reg [jm 18 6, jm 19 0, jS 20 19, jb .lss 21 18 20]) (.cond (.t 21) .skip (.exit 0))) (.seq (.block 1 (.seq (.reg [jm 24 0, jm 25 6, jn 26 (.idxs (.t 24) (.t 25)), jm 7 26]) (.seq (.reg [jm 27 7, jn 28 (.bin .eql (.t 27) (.c (.int .u8 32))), jm 5 28]) (.block 2 (.seq (.reg [jm 34 7, jn 35 (.bin .eql (.t 34) (.c (.int .u8 92))), jm 33 35]) (.cond (.t 33) (.seq (.reg [jm 36 6, ju .add 37 36 1, jm 6 37]) (.seq (.seq (.reg [jm 38 6, jm 39 0, jS 40 39, jb .lss 41 38 40, jm 42 41, jt 42 43 (.mov (.t 0)), jt 42 44 (.mov (.t 6)), jt 42 45 (.idxs (.t 43) (.t 44)), jt 42 46 (.call 156 [(.c (.str [44, 43, 34, 92, 60, 62, 59, 35, 61, 32])), (.t 45)]), jt 42 47 (.bin .geq (.t 46) (ji 0)), jp 48 42 47]) (.cond (.t 48) (.seq (.reg [jm 49 4, jm 50 0, jm 51 6, jn 52 (.idxs (.t 50) (.t 51)), jn 53 (.bsl 1 [(.t 52)]), jn 54 (.app 5 1 1 (.t 49) (.t 53)), jm 4 54]) (.exit 1)) .skip)) (.seq (.reg [jm 56 0, jm 57 6, jn 58 (.call 157 [(.t 56), (.t 57)]), jm 55 58, je 59 0 55, je 60 1 55, jm 8 59, jm 9 60]) (.seq (.reg [jm 62 0, jm 63 6, ju .add 64 63 1, jn 65 (.call 157 [(.t 62), (.t 64)]), jm 61 65, je 66 0 61, je 67 1 61, jm 10 66, jm 11 67]) (.seq (.seq (.reg [jm 68 9, jn 69 (.un .not (.t 68)), jm 70 69, jf 70 71 (.mov (.t 11)), jf 70 72 (.un .not (.t 71)), jo 73 70 72]) (.cond (.t 73) (.seq (.reg [jc 2 (.str []), jc 3 (.bool false)]) .ret) .skip)) (.seq (.reg [jm 74 4, jm 75 8, jn 76 (.bin .shl (.t 75) (.c (.int .u64 4))), jm 77 10, jb .or 78 76 77, jn 79 (.bsl 1 [(.t 78)]), jn 80 (.app 5 1 1 (.t 74) (.t 79)), jm 4 80]) (.reg [jm 81 6, ju .add 82 81 1, jm 6 82]))))))) (.seq (.reg [jm 84 7, jn 85 (.call 156 [(.c (.str [44, 43, 34, 92, 60, 62, 59])), (.t 84)]), ju .geq 86 85 0, jm 83 86]) (.cond (.t 83) (.seq (.reg [jc 2 (.str []), jc 3 (.bool false)]) .ret) (.reg [jm 29 4, jm 30 7, jn 31 (.bsl 1 [(.t 30)]), jn 32 (.app 5 1 1 (.t 29) (.t 31)), jm 4 32]))))))))) (.reg [jm 22 6, ju .add 23 22 1, jm 6 23])))
def k141 : IC := (.seq (.reg [jc 2 (.str []), jc 3 (.bool false)]) (.seq (.seq (.reg [jm 12 0, jn 13 (.call 155 [(.t 12), (.c (.str [35]))]), jm 14 13, jf 14 15 (.mov (.t 0)), jf 14 16 (.call 155 [(.t 15), (.c (.str [32]))]), jo 17 14 16]) (.cond (.t 17) (.seq (.reg [jc 2 (.str []), jc 3 (.bool false)]) .ret) .skip)) (.seq (.reg [jc 4 .nl]) (.seq (.reg [jc 5 (.bool false)]) (.seq (.seq (.reg [jc 6 (j6 0)]) (.block 0 (.loop kX))) (.seq (.reg [jm 87 4, jn 88 (.cvb (.t 87)), jm 89 5, jn 90 (.un .not (.t 89)), jm 2 88, jm 3 90]) .ret))))))
theorem Cm : C9 Tryz.prog Tryz.f141 = some ⟨91, k141, [(.tmp 2), (.tmp 3)]⟩ := by kernel_rfl
theorem XH (N : Nat) (a0 : List UInt8) : ∀ (n : Nat) (x : Bool × Int × List UInt8) (y : (Bool × List UInt8) ⊕ (List UInt8 × Bool)), FR N a0 n x = some y → WX Tryz.prog (fun _ => false) (.loop kX) ((fun (x : Bool × Int × List UInt8) => ⟨AX [(0, .str a0), (4, .slr 226404 0 x.2.2.length), (5, .bool x.1), (6, j6 x.2.1)], AX [(226404, ⟨1, true, List.map eb x.2.2⟩)]⟩) x) ((Sum.elim (fun y e s => e = .exit 0 ∧ s = ⟨AX [(4, .slr 226404 0 y.2.length), (5, .bool y.1)], AX [(226404, ⟨1, true, List.map eb y.2⟩)]⟩) (fun y e s => e = .ret ∧ s = ⟨AX [(2, .str y.1), (3, .bool y.2)], AX []⟩) : ((Bool × List UInt8) ⊕ (List UInt8 × Bool)) → Xt → St → Prop) y) := by
 refine FB _ _ (FR N a0) (IP N a0) (fun _ => rfl) (fun _ _ => rfl) ?_
 rintro rec ⟨uS, NL, I4⟩ y h
 iterate 2 refine AA ?_
 refine AB ?_
 iterate 4 refine wq rfl ?_
 refine EN h rfl (fun c4 h => ?_) (fun c4 h => ?_)
 refine BH ?_
 refine R6 (fun (x : Bool × Int × List UInt8) => ⟨AX [(0, .str a0), (4, .slr 226404 0 x.2.2.length), (5, .bool x.1), (6, j6 x.2.1)], AX [(226404, ⟨1, true, List.map eb x.2.2⟩)]⟩) (fun x => JU rec x.1 x.2.1 x.2.2 = some y) ?_ ?_
 rintro ⟨uU, pG, WT⟩ h
 refine AB ?_
 refine wq rfl ?_
 refine AY (p := j6 (CE (pG + (1 : Int)))) rfl rfl ?_
 refine wq rfl ?_
 exact ⟨(uU, (CE (pG + (1 : Int))), WT), (cq rfl), h⟩
 refine CS (AA (AB ?_))
 iterate 2 refine wq rfl ?_
 obtain ⟨J2, j3, h⟩ := AQ h
 refine AY rfl (P6 j3 rfl rfl) ?_
 refine wq rfl ?_
 refine AA (AB ?_)
 refine wq rfl ?_
 refine AY (p := .bool (((J2).toNat : Int) == (32 : Int))) rfl rfl ?_
 refine wq rfl ?_
 refine CS (AA (AB ?_))
 refine wq rfl ?_
 refine AY (p := .bool (((J2).toNat : Int) == (92 : Int))) rfl rfl ?_
 refine wq rfl ?_
 refine EN h rfl (fun c5 h => ?_) (fun c5 h => ?_)
 refine AA (AB ?_)
 refine wq rfl ?_
 refine AY (p := j6 (CE (NL + (1 : Int)))) rfl rfl ?_
 refine wq rfl ?_
 refine AA ?_
 obtain ⟨g6, hg6, h⟩ := AQ h
 refine GV ⟨AX [(0, .str a0), (4, .slr 226404 0 I4.length), (5, .bool (((J2).toNat : Int) == (32 : Int))), (6, j6 (CE (NL + (1 : Int)))), (48, .bool g6)], AX [(226404, ⟨1, true, List.map eb I4⟩)]⟩ ?_ ?_
 have h := hg6
 refine AB ?_
 iterate 5 refine wq rfl ?_
 rcases D7 h with ⟨c7, h⟩ | ⟨c7, h⟩
 iterate 2 refine AY (gy rfl c7) rfl ?_
 obtain ⟨jP, xR, h⟩ := AQ h
 refine AY (gy rfl c7) (P6 xR rfl rfl) ?_
 obtain ⟨x46, Kw, h⟩ := AQ h
 refine CX (gy rfl c7) (CZ (JY N _ _ _ Kw) rfl (.cons A8 (.cons A8 .nil)) rfl rfl rfl) ?_
 refine AY (gy rfl c7) rfl ?_
 refine AY rfl (BF c7 rfl rfl) ?_
 cases AP h
 exact cq rfl
 iterate 5 refine D8 (gn rfl c7) ?_
 refine AY rfl (BD c7 rfl rfl) ?_
 obtain rfl := AP h
 exact cq rfl
 clear hg6
 refine EN h rfl (fun c8 h => ?_) (fun c8 h => ?_)
 refine AA (AB ?_)
 iterate 3 refine wq rfl ?_
 obtain ⟨M6, xP, h⟩ := AQ h
 refine AY rfl (P6 xP rfl rfl) ?_
 refine CX rfl (QK 225653 rfl rfl rfl) ?_
 obtain ⟨x54, Ku, h⟩ := AQ h
 refine UQ (f := eb) 225654 Ku rfl rfl rfl rfl rfl (JZ rfl (BP (f := eb) (l := [M6]))) rfl rfl rfl rfl ?_
 refine wq rfl ?_
 refine O7 ?_
 exact ⟨((((J2).toNat : Int) == (32 : Int)), (CE (NL + (1 : Int))), x54), (BX.trans (rename 225654 226404 rfl rfl) (cq rfl)), h⟩
 refine BH (AA (AB ?_))
 iterate 2 refine wq rfl ?_
 obtain ⟨Gb, hx58, h⟩ := AQ h
 refine CX rfl (CZ (XV N _ _ _ hx58) rfl (.cons A8 (.cons A8 .nil)) rfl rfl rfl) ?_
 iterate 5 refine wq rfl ?_
 refine AA (AB ?_)
 iterate 2 refine wq rfl ?_
 refine AY (p := j6 (CE ((CE (NL + (1 : Int))) + (1 : Int)))) rfl rfl ?_
 obtain ⟨pE, sZ, h⟩ := AQ h
 refine CX rfl (CZ (XV N _ _ _ sZ) rfl (.cons A8 (.cons A8 .nil)) rfl rfl rfl) ?_
 iterate 5 refine wq rfl ?_
 refine AA ?_
 obtain ⟨g9, hg9, h⟩ := AQ h
 refine GV ⟨AX [(0, .str a0), (4, .slr 226404 0 I4.length), (5, .bool (((J2).toNat : Int) == (32 : Int))), (6, j6 (CE (NL + (1 : Int)))), (8, eb Gb.1), (10, eb pE.1), (73, .bool g9)], AX [(226404, ⟨1, true, List.map eb I4⟩)]⟩ ?_ ?_
 have h := hg9
 refine AB ?_
 iterate 3 refine wq rfl ?_
 rcases D7 h with ⟨c10, h⟩ | ⟨c10, h⟩
 iterate 2 refine D8 (gn rfl c10) ?_
 refine AY rfl (BF c10 rfl rfl) ?_
 obtain rfl := AP h
 exact cq rfl
 iterate 2 refine AY (gy rfl c10) rfl ?_
 refine AY rfl (BD c10 rfl rfl) ?_
 cases AP h
 exact cq rfl
 clear hg9
 refine EN h rfl (fun c11 h => ?_) (fun c11 h => ?_)
 refine AA (AB ?_)
 iterate 2 refine wq rfl ?_
 cases AP h
 exact F4 (st1 := ⟨AX [(2, .str ([] : List UInt8)), (3, .bool false)], AX []⟩) (cq rfl) ⟨rfl, rfl⟩
 refine BH (AA (AB ?_))
 iterate 2 refine wq rfl ?_
 refine AY rfl (Bn (a := Gb.1) (by decide) rfl rfl) ?_
 refine wq rfl ?_
 refine AY rfl (Gu (a := (vI Gb.1 4)) (b := pE.1) rfl rfl) ?_
 refine CX rfl (QK 225679 rfl rfl rfl) ?_
 obtain ⟨x80, Kk, h⟩ := AQ h
 refine UQ (f := eb) 225680 Kk rfl rfl rfl rfl rfl (JZ rfl (BP (f := eb) (l := [((vI Gb.1 4) ||| pE.1)]))) rfl rfl rfl rfl ?_
 refine wq rfl ?_
 refine AB ?_
 refine wq rfl ?_
 refine AY (p := j6 (CE ((CE (NL + (1 : Int))) + (1 : Int)))) rfl rfl ?_
 refine wq rfl ?_
 exact ⟨((((J2).toNat : Int) == (32 : Int)), (CE ((CE (NL + (1 : Int))) + (1 : Int))), x80), (BX.trans (rename 225680 226404 rfl rfl) (cq rfl)), h⟩
 refine AA (AB ?_)
 refine wq rfl ?_
 obtain ⟨x85, hx85, h⟩ := AQ h
 refine CX rfl (CZ (JY N _ _ _ hx85) rfl (.cons A8 (.cons A8 .nil)) rfl rfl rfl) ?_
 iterate 2 refine wq rfl ?_
 refine EN h rfl (fun c12 h => ?_) (fun c12 h => ?_)
 refine AA (AB ?_)
 iterate 2 refine wq rfl ?_
 cases AP h
 exact F4 (st1 := ⟨AX [(2, .str ([] : List UInt8)), (3, .bool false)], AX []⟩) (cq rfl) ⟨rfl, rfl⟩
 refine AB ?_
 iterate 2 refine wq rfl ?_
 refine CX rfl (QK 225631 rfl rfl rfl) ?_
 obtain ⟨x32, hx32, h⟩ := AQ h
 refine UQ (f := eb) 225632 hx32 rfl rfl rfl rfl rfl (JZ rfl (BP (f := eb) (l := [J2]))) rfl rfl rfl rfl ?_
 refine wq rfl ?_
 exact ⟨((((J2).toNat : Int) == (32 : Int)), NL, x32), (BX.trans (rename 225632 226404 rfl rfl) (cq rfl)), h⟩
 cases AP h
 exact ED (st1 := ⟨AX [(4, .slr 226404 0 I4.length), (5, .bool uS)], AX [(226404, ⟨1, true, List.map eb I4⟩)]⟩) (cq rfl) ⟨rfl, rfl⟩
theorem aI (N : Nat) (a0 : List UInt8) (r : List UInt8 × Bool) (h : RG N a0 = some r) : Sat Tryz.prog 141 AC [.str a0] (.tup [.str r.1, .bool r.2]) AC := by
 refine EO mixed Tryz.func141 Cm (rs := [.str r.1, .bool r.2]) rfl rfl ?_
 refine AA (AB ?_)
 iterate 2 refine wq rfl ?_
 refine AA ?_
 obtain ⟨g1, hg1, h⟩ := AQ h
 refine GV ⟨AX [(0, .str a0), (17, .bool g1)], AX []⟩ ?_ ?_
 have h := hg1
 refine AB ?_
 refine wq rfl ?_
 obtain ⟨K5, Z9, h⟩ := AQ h
 refine CX rfl (CZ (O9 N _ _ _ Z9) rfl (.cons A8 (.cons A8 .nil)) rfl rfl rfl) ?_
 refine wq rfl ?_
 rcases D7 h with ⟨c2, h⟩ | ⟨c2, h⟩
 iterate 2 refine D8 (gn rfl c2) ?_
 refine AY rfl (BF c2 rfl rfl) ?_
 obtain rfl := AP h
 exact cq rfl
 refine AY (gy rfl c2) rfl ?_
 obtain ⟨YM, hx16, h⟩ := AQ h
 refine CX (gy rfl c2) (CZ (O9 N _ _ _ hx16) rfl (.cons A8 (.cons A8 .nil)) rfl rfl rfl) ?_
 refine AY rfl (BD c2 rfl rfl) ?_
 obtain rfl := AP h
 exact cq rfl
 clear hg1
 refine EN h rfl (fun c3 h => ?_) (fun c3 h => ?_)
 refine AA (AB ?_)
 iterate 2 refine wq rfl ?_
 cases AP h
 refine BZ ?_
 exact ⟨nofun, rfl, rfl⟩
 refine BH (AA (AB ?_))
 refine wq rfl ?_
 refine AA (AB ?_)
 refine wq rfl ?_
 iterate 2 refine AA ?_
 refine AB ?_
 refine wq rfl ?_
 refine CS ?_
 obtain ⟨y13, hy13, h⟩ := AQ h
 refine R5 (XH N a0 N _ _ hy13) (BX.trans (fT 4 226404 1 true rfl rfl rfl) (cq rfl)) ?_
 clear hy13
 rcases y13 with y13 | y13
 rintro e s ⟨rfl, rfl⟩
 refine AA (AB ?_)
 refine wq rfl ?_
 refine AY rfl (V4 (l := y13.2) rfl rfl (BP (f := eb) (l := y13.2))) ?_
 iterate 4 refine wq rfl ?_
 cases AP h
 refine BZ ?_
 exact ⟨nofun, rfl, rfl⟩
 rintro e s ⟨rfl, rfl⟩
 cases AP h
 exact ⟨nofun, rfl, rfl⟩
def qW : IC := (.seq (.reg [jb .lss 16 15 14]) (.seq (.cond (.t 16) .skip (.exit 0)) (.seq (.block 1 (.seq (.reg [jx 17 1 13 15, jl 18 1 17, jm 6 18]) (.seq (.reg [jm 20 6, jn 21 (.call 140 [(.t 20), (.c (.str [61]))]), jm 19 21, je 22 0 19, je 23 1 19, je 24 2 19, jm 7 22, jm 8 23, jm 9 24]) (.seq (.reg [jm 26 8, jn 27 (.call 141 [(.t 26)]), jm 25 27, je 28 0 25, je 29 1 25, jm 10 28, jm 11 29]) (.seq (.seq (.reg [jm 30 9, jn 31 (.un .not (.t 30)), jm 32 31, jf 32 33 (.mov (.t 11)), jf 32 34 (.un .not (.t 33)), jo 35 32 34, jm 36 35, jf 36 37 (.mov (.t 4)), jf 36 38 (.len false (.t 37)), jf 36 39 (.bin .gtr (.t 38) (ji 4)), jo 40 36 39]) (.cond (.t 40) (.seq (.reg [jc 2 .nl, jc 3 (j6 15)]) .ret) .skip)) (.reg [jm 41 4, jm 42 7, jn 43 (.call 78 [(.t 42)]), jm 44 10, jn 45 (.build [(.str []), (.str [])] [(0, (1, (.t 43))), (1, (1, (.t 44)))]), jn 46 (.bsl 2 [(.t 45)]), jn 47 (.app 41 2 32 (.t 41) (.t 46)), jm 4 47])))))) (.reg [ju .add 48 15 1, jm 15 48]))))
def k121 : IC := (.seq (.reg [jc 2 .nl, jc 3 (j6 0)]) (.seq (.reg [jc 4 .nl]) (.seq (.seq (.reg [jm 12 0, jn 13 (.call 120 [(.t 12), (.c (.int .u8 43))]), jL 14 13, jc 15 (j6 0)]) (.block 0 (.loop qW))) (.seq (.seq (.reg [jm 49 4, jn 50 (.call 54 [(.t 49)]), jn 51 (.un .not (.t 50))]) (.cond (.t 51) (.seq (.reg [jc 2 .nl, jc 3 (j6 15)]) .ret) .skip)) (.seq (.reg [jm 52 4, jm 2 52, jc 3 (j6 0)]) .ret)))))
theorem Cq : C9 Tryz.prog Tryz.f121 = some ⟨53, k121, [(.tmp 2), (.tmp 3)]⟩ := by kernel_rfl
theorem YO (N : Nat) (K5 : List (List UInt8)) : ∀ (n : Nat) (x : Int × List AU) (y : (List AU) ⊕ (List AU × Int)), I5 N K5 n x = some y → WX Tryz.prog (fun _ => false) (.loop qW) ((fun (x : Int × List AU) => ⟨AX [(4, .slr 194404 0 x.2.length), (13, .sl 1 (List.map PV.str K5)), (14, j6 (K5.length : Int)), (15, j6 x.1)], AX [(194404, ⟨2, true, List.map AV x.2⟩)]⟩) x) ((Sum.elim (fun y e s => e = .exit 0 ∧ s = ⟨AX [(4, .slr 194404 0 y.length)], AX [(194404, ⟨2, true, List.map AV y⟩)]⟩) (fun y e s => e = .ret ∧ s = ⟨AX [(2, .sl 2 (List.map AV y.1)), (3, j6 y.2)], AX []⟩) : ((List AU) ⊕ (List AU × Int)) → Xt → St → Prop) y) := by
 refine FB _ _ (I5 N K5) (LD N K5) (fun _ => rfl) (fun _ _ => rfl) ?_
 rintro rec ⟨QB, NB⟩ y h
 refine AA (AB ?_)
 refine wq rfl ?_
 refine AA ?_
 refine EN h rfl (fun c1 h => ?_) (fun c1 h => ?_)
 refine BH (AA (CS (AA (AB ?_))))
 obtain ⟨EA, U3, h⟩ := AQ h
 refine AY rfl (EW (cs := [.str EA]) U3 rfl rfl rfl) ?_
 iterate 2 refine wq rfl ?_
 refine AA (AB ?_)
 refine wq rfl ?_
 obtain ⟨XF, dC, h⟩ := AQ h
 refine CX rfl (CZ (aH N _ _ _ dC) rfl (.cons A8 (.cons A8 .nil)) rfl rfl rfl) ?_
 iterate 7 refine wq rfl ?_
 refine AA (AB ?_)
 refine wq rfl ?_
 obtain ⟨x27, hx27, h⟩ := AQ h
 refine CX rfl (CZ (aI N _ _ hx27) rfl (.cons A8 .nil) rfl rfl rfl) ?_
 iterate 5 refine wq rfl ?_
 refine AA ?_
 obtain ⟨g2, hg2, h⟩ := AQ h
 refine GV ⟨AX [(4, .slr 194404 0 NB.length), (7, .str XF.1), (10, .str x27.1), (13, .sl 1 (List.map PV.str K5)), (14, j6 (K5.length : Int)), (15, j6 QB), (40, .bool g2)], AX [(194404, ⟨2, true, List.map AV NB⟩)]⟩ ?_ ?_
 have h := hg2
 refine AB ?_
 iterate 3 refine wq rfl ?_
 rcases D7 h with ⟨c3, h⟩ | ⟨c3, h⟩
 iterate 2 refine D8 (gn rfl c3) ?_
 refine AY rfl (BF c3 rfl rfl) ?_
 refine wq rfl ?_
 iterate 3 refine D8 rfl ?_
 refine wq rfl ?_
 obtain rfl := AP h
 exact cq rfl
 iterate 2 refine AY (gy rfl c3) rfl ?_
 refine AY rfl (BD c3 rfl rfl) ?_
 refine wq rfl ?_
 rcases D7 h with ⟨c4, h⟩ | ⟨c4, h⟩
 iterate 3 refine D8 (gn rfl c4) ?_
 refine AY rfl (BF c4 rfl rfl) ?_
 obtain rfl := AP h
 exact cq rfl
 iterate 3 refine AY (gy rfl c4) rfl ?_
 refine AY rfl (BD c4 rfl rfl) ?_
 cases AP h
 exact cq rfl
 clear hg2
 refine EN h rfl (fun c5 h => ?_) (fun c5 h => ?_)
 refine AA (AB ?_)
 iterate 2 refine wq rfl ?_
 cases AP h
 exact F4 (st1 := ⟨AX [(2, .sl 2 (List.map AV [])), (3, j6 15)], AX []⟩) (BX.trans (KS 2 (FM 2) rfl) (cq rfl)) ⟨rfl, rfl⟩
 refine BH (AB ?_)
 iterate 2 refine wq rfl ?_
 obtain ⟨x43, Ky, h⟩ := AQ h
 refine CX rfl (CZ (TU N _ _ Ky) rfl (.cons A8 .nil) rfl rfl rfl) ?_
 refine wq rfl ?_
 refine AY (p := .agg [.str x43, .str x27.1]) rfl rfl ?_
 refine CX rfl (QK 193646 rfl rfl rfl) ?_
 obtain ⟨YK, iZ, h⟩ := AQ h
 refine UQ (f := AV) 193647 iZ rfl rfl rfl rfl rfl (JZ rfl (BP (f := AV) (l := [(⟨x43, x27.1⟩ : AU)]))) rfl rfl rfl rfl ?_
 refine wq rfl ?_
 refine AB ?_
 refine AY (p := j6 (CE (QB + (1 : Int)))) rfl rfl ?_
 refine wq rfl ?_
 exact ⟨((CE (QB + (1 : Int))), YK), (BX.trans (rename 193647 194404 rfl rfl) (cq rfl)), h⟩
 obtain rfl := AP h
 exact ED (st1 := ⟨AX [(4, .slr 194404 0 NB.length)], AX [(194404, ⟨2, true, List.map AV NB⟩)]⟩) (cq rfl) ⟨rfl, rfl⟩
theorem aJ (N : Nat) (a0 : List UInt8) (r : List AU × Int) (h : RH N a0 = some r) : Sat Tryz.prog 121 AC [.str a0] (.tup [.sl 2 (List.map AV r.1), j6 r.2]) AC := by
 refine EO mixed Tryz.func121 Cq (rs := [.sl 2 (List.map AV r.1), j6 r.2]) rfl rfl ?_
 refine AA (AB ?_)
 iterate 2 refine wq rfl ?_
 refine AA (AB ?_)
 refine wq rfl ?_
 iterate 2 refine AA ?_
 refine AB ?_
 refine wq rfl ?_
 obtain ⟨K5, Z9, h⟩ := AQ h
 refine CX rfl (CZ (bK N _ _ _ Z9) rfl (.cons A8 (.cons A8 .nil)) rfl rfl rfl) ?_
 refine AY rfl (CR rfl) ?_
 refine wq rfl ?_
 refine CS ?_
 obtain ⟨y6, rA, h⟩ := AQ h
 refine R5 (YO N K5 N _ _ rA) (BX.trans (fT 4 194404 2 true rfl rfl rfl) (cq rfl)) ?_
 clear rA
 rcases y6 with y6 | y6
 rintro e s ⟨rfl, rfl⟩
 iterate 2 refine AA ?_
 refine AB ?_
 refine wq rfl ?_
 obtain ⟨x50, hx50, h⟩ := AQ h
 refine CX rfl (CZ (XW N _ _ hx50) rfl (.cons (OV rfl (BP (f := AV) (l := y6))) .nil) rfl rfl rfl) ?_
 refine wq rfl ?_
 refine EN h rfl (fun c7 h => ?_) (fun c7 h => ?_)
 refine AA (AB ?_)
 iterate 2 refine wq rfl ?_
 cases AP h
 refine F4 (st1 := ⟨AX [(2, .sl 2 (List.map AV [])), (3, j6 15)], AX []⟩) (BX.trans (KS 2 (FM 2) rfl) (cq rfl)) ?_
 exact ⟨nofun, rfl, rfl⟩
 refine BH (AA (AB ?_))
 iterate 3 refine wq rfl ?_
 cases AP h
 refine F4 (st1 := ⟨AX [(2, .sl 2 (List.map AV y6)), (3, j6 0)], AX []⟩) (BX.trans (Vd.freeze 194404 _ rfl rfl rfl) (BX.trans (KS 2 (GG (congrArg (PV.sl 2) (BP (f := AV) (l := y6)))) rfl) (cq rfl))) ?_
 exact ⟨nofun, rfl, rfl⟩
 rintro e s ⟨rfl, rfl⟩
 cases AP h
 exact ⟨nofun, rfl, rfl⟩
def qC : IC := (.seq (.reg [jb .lss 15 14 13]) (.seq (.cond (.t 15) .skip (.exit 0)) (.seq (.block 1 (.seq (.reg [jx 16 1 12 14, jl 17 1 16, jm 6 17]) (.seq (.reg [jm 19 6, jn 20 (.call 121 [(.t 19)]), jm 18 20, je 21 0 18, je 22 1 18, jm 7 21, jm 8 22]) (.seq (.seq (.reg [jm 23 8, ju .neq 24 23 0, jm 25 24, jf 25 26 (.mov (.t 4)), jf 25 27 (.len false (.t 26)), jf 25 28 (.bin .eql (.t 27) (ji 8)), jo 29 25 28]) (.cond (.t 29) (.seq (.reg [jc 2 .nl, jc 3 (j6 15)]) .ret) .skip)) (.reg [jm 30 4, jm 31 7, jn 32 (.bsl 1 [(.t 31)]), jn 33 (.app 25 1 24 (.t 30) (.t 32)), jm 4 33]))))) (.reg [ju .add 34 14 1, jm 14 34]))))
def k96 : IC := (.seq (.reg [jc 2 .nl, jc 3 (j6 0)]) (.seq (.seq (.reg [jm 9 0, jn 10 (.bin .eql (.t 9) (.c (.str [])))]) (.cond (.t 10) (.seq (.reg [jc 2 .nl, jc 3 (j6 0)]) .ret) .skip)) (.seq (.reg [jc 4 .nl]) (.seq (.seq (.reg [jm 11 0, jn 12 (.call 120 [(.t 11), (.c (.int .u8 44))]), jL 13 12, jc 14 (j6 0)]) (.block 0 (.loop qC))) (.seq (.reg [jm 35 4, jm 2 35, jc 3 (j6 0)]) .ret)))))
theorem He : C9 Tryz.prog Tryz.f96 = some ⟨36, k96, [(.tmp 2), (.tmp 3)]⟩ := by kernel_rfl
theorem aZ (N : Nat) (LF : List (List UInt8)) : ∀ (n : Nat) (x : Int × List (List AU)) (y : (List (List AU)) ⊕ (List (List AU) × Int)), JJ N LF n x = some y → WX Tryz.prog (fun _ => false) (.loop qC) ((fun (x : Int × List (List AU)) => ⟨AX [(4, .slr 154404 0 x.2.length), (12, .sl 1 (List.map PV.str LF)), (13, j6 (LF.length : Int)), (14, j6 x.1)], AX [(154404, ⟨1, true, List.map (es 2 AV) x.2⟩)]⟩) x) ((Sum.elim (fun y e s => e = .exit 0 ∧ s = ⟨AX [(4, .slr 154404 0 y.length)], AX [(154404, ⟨1, true, List.map (es 2 AV) y⟩)]⟩) (fun y e s => e = .ret ∧ s = ⟨AX [(2, .sl 1 (List.map (es 2 AV) y.1)), (3, j6 y.2)], AX []⟩) : ((List (List AU)) ⊕ (List (List AU) × Int)) → Xt → St → Prop) y) := by
 refine FB _ _ (JJ N LF) (NZ N LF) (fun _ => rfl) (fun _ _ => rfl) ?_
 rintro rec ⟨WR, KQ⟩ y h
 refine AA (AB ?_)
 refine wq rfl ?_
 refine AA ?_
 refine EN h rfl (fun c2 h => ?_) (fun c2 h => ?_)
 refine BH (AA (CS (AA (AB ?_))))
 obtain ⟨YM, hx16, h⟩ := AQ h
 refine AY rfl (EW (cs := [.str YM]) hx16 rfl rfl rfl) ?_
 iterate 2 refine wq rfl ?_
 refine AA (AB ?_)
 refine wq rfl ?_
 obtain ⟨x20, dD, h⟩ := AQ h
 refine CX rfl (CZ (aJ N _ _ dD) rfl (.cons A8 .nil) rfl rfl rfl) ?_
 iterate 5 refine wq rfl ?_
 refine AA ?_
 obtain ⟨g3, hg3, h⟩ := AQ h
 refine GV ⟨AX [(4, .slr 154404 0 KQ.length), (7, .sl 2 (List.map AV x20.1)), (12, .sl 1 (List.map PV.str LF)), (13, j6 (LF.length : Int)), (14, j6 WR), (29, .bool g3)], AX [(154404, ⟨1, true, List.map (es 2 AV) KQ⟩)]⟩ ?_ ?_
 have h := hg3
 refine AB ?_
 iterate 3 refine wq rfl ?_
 rcases D7 h with ⟨c4, h⟩ | ⟨c4, h⟩
 iterate 3 refine D8 (gn rfl c4) ?_
 refine AY rfl (BF c4 rfl rfl) ?_
 obtain rfl := AP h
 exact cq rfl
 iterate 3 refine AY (gy rfl c4) rfl ?_
 refine AY rfl (BD c4 rfl rfl) ?_
 cases AP h
 exact cq rfl
 clear hg3
 refine EN h rfl (fun c5 h => ?_) (fun c5 h => ?_)
 refine AA (AB ?_)
 iterate 2 refine wq rfl ?_
 cases AP h
 exact F4 (st1 := ⟨AX [(2, .sl 1 (List.map (es 2 AV) [])), (3, j6 15)], AX []⟩) (BX.trans (KS 2 (FM 1) rfl) (cq rfl)) ⟨rfl, rfl⟩
 refine BH (AB ?_)
 iterate 2 refine wq rfl ?_
 refine CX rfl (QK 153632 rfl rfl rfl) ?_
 obtain ⟨x33, Lb, h⟩ := AQ h
 refine UQ (f := (es 2 AV)) 153633 Lb rfl rfl rfl rfl rfl (JZ rfl (BP (f := (es 2 AV)) (l := [x20.1]))) rfl rfl rfl rfl ?_
 refine wq rfl ?_
 refine AB ?_
 refine AY (p := j6 (CE (WR + (1 : Int)))) rfl rfl ?_
 refine wq rfl ?_
 exact ⟨((CE (WR + (1 : Int))), x33), (BX.trans (rename 153633 154404 rfl rfl) (cq rfl)), h⟩
 obtain rfl := AP h
 exact ED (st1 := ⟨AX [(4, .slr 154404 0 KQ.length)], AX [(154404, ⟨1, true, List.map (es 2 AV) KQ⟩)]⟩) (cq rfl) ⟨rfl, rfl⟩
theorem iJ (N : Nat) (a0 : List UInt8) (r : List (List AU) × Int) (h : YA N a0 = some r) : Sat Tryz.prog 96 AC [.str a0] (.tup [.sl 1 (List.map (es 2 AV) r.1), j6 r.2]) AC := by
 refine EO mixed Tryz.func96 He (rs := [.sl 1 (List.map (es 2 AV) r.1), j6 r.2]) rfl rfl ?_
 refine AA (AB ?_)
 iterate 2 refine wq rfl ?_
 iterate 2 refine AA ?_
 refine AB ?_
 iterate 2 refine wq rfl ?_
 refine EN h rfl (fun c1 h => ?_) (fun c1 h => ?_)
 refine AA (AB ?_)
 iterate 2 refine wq rfl ?_
 cases AP h
 refine F4 (st1 := ⟨AX [(2, .sl 1 (List.map (es 2 AV) [])), (3, j6 0)], AX []⟩) (BX.trans (KS 2 (FM 1) rfl) (cq rfl)) ?_
 exact ⟨nofun, rfl, rfl⟩
 refine BH (AA (AB ?_))
 refine wq rfl ?_
 iterate 2 refine AA ?_
 refine AB ?_
 refine wq rfl ?_
 obtain ⟨LF, ZA, h⟩ := AQ h
 refine CX rfl (CZ (bK N _ _ _ ZA) rfl (.cons A8 (.cons A8 .nil)) rfl rfl rfl) ?_
 refine AY rfl (CR rfl) ?_
 refine wq rfl ?_
 refine CS ?_
 obtain ⟨y6, rA, h⟩ := AQ h
 refine R5 (aZ N LF N _ _ rA) (BX.trans (fT 4 154404 1 true rfl rfl rfl) (cq rfl)) ?_
 clear rA
 rcases y6 with y6 | y6
 rintro e s ⟨rfl, rfl⟩
 refine AA (AB ?_)
 iterate 3 refine wq rfl ?_
 cases AP h
 refine F4 (st1 := ⟨AX [(2, .sl 1 (List.map (es 2 AV) y6)), (3, j6 0)], AX []⟩) (BX.trans (Vd.freeze 154404 _ rfl rfl rfl) (BX.trans (KS 2 (GG (congrArg (PV.sl 1) (BP (f := (es 2 AV)) (l := y6)))) rfl) (cq rfl))) ?_
 exact ⟨nofun, rfl, rfl⟩
 rintro e s ⟨rfl, rfl⟩
 cases AP h
 exact ⟨nofun, rfl, rfl⟩
def k77 : IC := (.seq (.reg [jc 4 (.bool false)]) (.seq (.seq (.reg [jm 7 0]) (.block 0 (.seq (.block 4 (.seq (.block 3 (.seq (.block 2 (.seq (.block 1 (.seq (.seq (.seq (.reg [ju .eql 9 7 1, jm 8 9]) (.cond (.t 8) (.exit 1) .skip)) (.seq (.seq (.reg [ju .eql 11 7 2, jm 10 11]) (.cond (.t 10) (.exit 2) .skip)) (.seq (.seq (.reg [ju .eql 13 7 3, jm 12 13]) (.cond (.t 12) (.exit 3) .skip)) (.seq (.reg [ju .eql 15 7 5, jm 14 15]) (.cond (.t 14) (.exit 4) .skip))))) (.exit 0))) (.seq (.reg [jm 16 1, jn 17 (.call 93 [(.t 16), (.c (.str [32]))]), jn 18 (.bin .eql (.t 17) (.c (.str [])))]) (.cond (.t 18) (.seq (.reg [jc 4 (.bool false)]) .ret) .skip)))) (.seq (.seq (.reg [jm 19 1, jn 20 (.call 94 [(.t 19)]), jm 4 20]) .ret) (.exit 0)))) (.seq (.seq (.reg [jm 21 1, jn 22 (.call 95 [(.t 21)]), jm 4 22]) .ret) (.exit 0)))) (.seq (.seq (.reg [jm 24 1, jn 25 (.call 96 [(.t 24)]), jm 23 25, je 26 0 23, je 27 1 23, jm 5 26, jm 6 27]) (.seq (.reg [jm 28 6, ju .eql 29 28 0, jm 4 29]) .ret)) (.exit 0))))) (.seq (.reg [jc 4 (.bool true)]) .ret)))
theorem Hw : C9 Tryz.prog Tryz.f77 = some ⟨30, k77, [(.tmp 4)]⟩ := by kernel_rfl
theorem bG (N : Nat) (a0 : Int) (a1 : List UInt8) (r : Bool) (h : TP N a0 a1 = some r) : Sat Tryz.prog 77 AC [j6 a0, .str a1] (.bool r) AC := by
 refine EO mixed Tryz.func77 Hw (rs := [.bool r]) rfl rfl ?_
 refine AA (AB ?_)
 refine wq rfl ?_
 iterate 2 refine AA ?_
 refine AB ?_
 refine wq rfl ?_
 refine CS (AA (CS (AA (CS ?_))))
 refine R6 (fun (x : Unit) => ⟨AX [(1, .str a1)], AX []⟩) (fun x => NN a1 N = some r) ?_ ?_
 rintro ⟨⟩ h
 iterate 2 refine AA ?_
 refine AB ?_
 refine wq rfl ?_
 obtain ⟨x20, dD, h⟩ := AQ h
 refine CX rfl (CZ (YW N _ _ dD) rfl (.cons A8 .nil) rfl rfl rfl) ?_
 refine wq rfl ?_
 obtain rfl := AP h
 refine BZ ?_
 exact ⟨nofun, rfl, rfl⟩
 refine CS (AA (CS ?_))
 iterate 3 refine AA ?_
 refine AB ?_
 iterate 2 refine wq rfl ?_
 refine EN h rfl (fun c1 h => ?_) (fun c1 h => ?_)
 refine O7 ?_
 refine AA (AB ?_)
 refine wq rfl ?_
 obtain ⟨EA, U3, h⟩ := AQ h
 refine CX rfl (CZ (YV N _ _ _ U3) rfl (.cons A8 (.cons A8 .nil)) rfl rfl rfl) ?_
 refine wq rfl ?_
 refine EN h rfl (fun c2 h => ?_) (fun c2 h => ?_)
 refine AA (AB ?_)
 refine wq rfl ?_
 obtain rfl := AP h
 refine BZ ?_
 exact ⟨nofun, rfl, rfl⟩
 refine BH ?_
 exact ⟨(), (cq rfl), h⟩
 refine BH ?_
 iterate 2 refine AA ?_
 refine AB ?_
 iterate 2 refine wq rfl ?_
 refine EN h rfl (fun c3 h => ?_) (fun c3 h => ?_)
 refine O7 ?_
 exact ⟨(), (cq rfl), h⟩
 refine BH ?_
 iterate 2 refine AA ?_
 refine AB ?_
 iterate 2 refine wq rfl ?_
 refine EN h rfl (fun c4 h => ?_) (fun c4 h => ?_)
 refine O7 ?_
 iterate 2 refine AA ?_
 refine AB ?_
 refine wq rfl ?_
 obtain ⟨ZK, dB, h⟩ := AQ h
 refine CX rfl (CZ (YX N _ _ dB) rfl (.cons A8 .nil) rfl rfl rfl) ?_
 refine wq rfl ?_
 obtain rfl := AP h
 refine BZ ?_
 exact ⟨nofun, rfl, rfl⟩
 refine BH (AA (AB ?_))
 iterate 2 refine wq rfl ?_
 refine EN h rfl (fun c5 h => ?_) (fun c5 h => ?_)
 refine O7 ?_
 iterate 2 refine AA ?_
 refine AB ?_
 refine wq rfl ?_
 obtain ⟨x25, hx25, h⟩ := AQ h
 refine CX rfl (CZ (iJ N _ _ hx25) rfl (.cons A8 .nil) rfl rfl rfl) ?_
 iterate 5 refine wq rfl ?_
 refine AA (AB ?_)
 iterate 3 refine wq rfl ?_
 cases AP h
 refine BZ ?_
 exact ⟨nofun, rfl, rfl⟩
 refine BH ?_
 refine O7 ?_
 refine AA (AB ?_)
 refine wq rfl ?_
 obtain rfl := AP h
 refine BZ ?_
 exact ⟨nofun, rfl, rfl⟩
def k57 : IC := (.seq (.reg [jc 4 (j6 0)]) (.seq (.reg [jm 8 0, jn 9 (.call 58 [(.t 8)]), jm 7 9, je 10 0 7, je 11 1 7, jn 5 (.box 90 (.c (.agg [(.str []), (j6 0), (.bool false)]))), js 3 5 10, jm 6 11]) (.seq (.block 0 (.seq (.reg [jm 13 6, jn 14 (.un .not (.t 13)), jm 12 14]) (.cond (.t 12) (.seq (.reg [jc 4 (j6 16)]) .ret) (.seq (.reg [jm 16 1, jn 17 (.bin .eql (.t 16) (.c (.str []))), jm 18 17, jf 18 19 (.mov (.t 1)), jf 18 20 (.len true (.t 19)), jf 18 21 (.bin .gtr (.t 20) (ji 60)), jo 22 18 21, jm 23 22, jf 23 24 (.fda 1 (.t 5)), jf 23 25 (.load 1 false (.t 24)), jf 23 26 (.mov (.t 1)), jf 23 27 (.call 77 [(.t 25), (.t 26)]), jf 23 28 (.un .not (.t 27)), jo 29 23 28, jm 15 29]) (.cond (.t 15) (.seq (.reg [jc 4 (j6 17)]) .ret) .skip))))) (.seq (.reg [jc 4 (j6 0)]) .ret))))
theorem Io : C9 Tryz.prog Tryz.f57 = some ⟨30, k57, [(.tmp 4)]⟩ := by kernel_rfl
theorem SX (N : Nat) (a0 : List UInt8) (a1 : List UInt8) (r : Int) (h : NP N a0 a1 = some r) : Sat Tryz.prog 57 AC [.str a0, .str a1] (j6 r) AC := by
 refine EO mixed Tryz.func57 Io (rs := [j6 r]) rfl rfl ?_
 refine AA (AB ?_)
 refine wq rfl ?_
 refine AA (AB ?_)
 refine wq rfl ?_
 obtain ⟨x9, Dc, h⟩ := AQ h
 refine CX rfl (CZ (UD N _ _ Dc) rfl (.cons A8 .nil) rfl rfl rfl) ?_
 iterate 3 refine wq rfl ?_
 refine CX rfl (FE 91205 rfl rfl rfl rfl rfl) ?_
 refine EC (e' := FI x9.1) rfl rfl rfl rfl rfl rfl rfl rfl nofun rfl ?_
 refine wq rfl ?_
 refine AA (CS (AA (AB ?_)))
 iterate 3 refine wq rfl ?_
 refine EN h rfl (fun c1 h => ?_) (fun c1 h => ?_)
 refine AA (AB ?_)
 refine wq rfl ?_
 obtain rfl := AP h
 refine BZ ?_
 exact ⟨nofun, rfl, rfl⟩
 obtain ⟨g2, hg2, h⟩ := AQ h
 refine GV ⟨AX [(15, .bool g2)], AX []⟩ ?_ ?_
 have h := hg2
 refine AB ?_
 iterate 3 refine wq rfl ?_
 rcases D7 h with ⟨c3, h⟩ | ⟨c3, h⟩
 iterate 3 refine D8 (gn rfl c3) ?_
 refine AY rfl (BF c3 rfl rfl) ?_
 refine wq rfl ?_
 iterate 5 refine D8 rfl ?_
 iterate 2 refine wq rfl ?_
 obtain rfl := AP h
 exact cq rfl
 iterate 3 refine AY (gy rfl c3) rfl ?_
 refine AY rfl (BD c3 rfl rfl) ?_
 refine wq rfl ?_
 rcases D7 h with ⟨c4, h⟩ | ⟨c4, h⟩
 iterate 5 refine D8 (gn rfl c4) ?_
 refine AY rfl (BF c4 rfl rfl) ?_
 refine wq rfl ?_
 obtain rfl := AP h
 exact cq rfl
 iterate 3 refine AY (gy rfl c4) rfl ?_
 obtain ⟨x27, hx27, h⟩ := AQ h
 refine CX (gy rfl c4) (CZ (bG N _ _ _ hx27) rfl (.cons A8 (.cons A8 .nil)) rfl rfl rfl) ?_
 refine AY (gy rfl c4) rfl ?_
 refine AY rfl (BD c4 rfl rfl) ?_
 refine wq rfl ?_
 cases AP h
 exact cq rfl
 clear hg2
 refine EN h rfl (fun c5 h => ?_) (fun c5 h => ?_)
 refine AA (AB ?_)
 refine wq rfl ?_
 obtain rfl := AP h
 refine BZ ?_
 exact ⟨nofun, rfl, rfl⟩
 refine BH (AA (AB ?_))
 refine wq rfl ?_
 obtain rfl := AP h
 refine BZ ?_
 exact ⟨nofun, rfl, rfl⟩
def k56 : IC := (.seq (.reg [jn 1 (.box 41 (.t 0)), jc 2 (.bool false)]) (.seq (.reg [ja 3 0 1, jl 4 1 3, jn 5 (.bin .eql (.t 4) (.c (.str [101, 110, 116, 114, 121, 105, 100]))), jm 6 5, jf 6 7 (.fda 0 (.t 1)), jf 6 8 (.load 1 false (.t 7)), jf 6 9 (.fda 1 (.t 1)), jf 6 10 (.load 1 false (.t 9)), jf 6 11 (.call 57 [(.t 8), (.t 10)]), jf 6 12 (.bin .neq (.t 11) (ji 0)), jo 13 6 12, jm 2 13]) .ret))
theorem Ip : C9 Tryz.prog Tryz.f56 = some ⟨14, k56, [(.tmp 2)]⟩ := by kernel_rfl
theorem WS (N : Nat) (a0 : AU) (r : Bool) (h : QU N a0 = some r) : Sat Tryz.prog 56 AC [AV a0] (.bool r) AC := by
 refine EO mixed Tryz.func56 Ip (rs := [.bool r]) rfl rfl ?_
 refine AA (AB ?_)
 refine CX rfl (FE 89601 rfl rfl rfl rfl rfl) ?_
 refine wq rfl ?_
 obtain ⟨g1, hg1, h⟩ := AQ h
 refine GV ⟨AX [(2, .bool g1)], AX []⟩ ?_ ?_
 have h := hg1
 refine AB ?_
 iterate 4 refine wq rfl ?_
 rcases D7 h with ⟨c2, h⟩ | ⟨c2, h⟩
 iterate 6 refine D8 (gn rfl c2) ?_
 refine AY rfl (BF c2 rfl rfl) ?_
 refine wq rfl ?_
 obtain rfl := AP h
 exact cq rfl
 iterate 4 refine AY (gy rfl c2) rfl ?_
 obtain ⟨PG, WZ, h⟩ := AQ h
 refine CX (gy rfl c2) (CZ (SX N _ _ _ WZ) rfl (.cons A8 (.cons A8 .nil)) rfl rfl rfl) ?_
 refine AY (gy rfl c2) rfl ?_
 refine AY rfl (BD c2 rfl rfl) ?_
 refine wq rfl ?_
 cases AP h
 exact cq rfl
 clear hg1
 obtain rfl := AP h
 refine BZ ?_
 exact ⟨nofun, rfl, rfl⟩
def gH : IC := (.seq (.reg [jb .lss 9 8 7]) (.seq (.cond (.t 9) .skip (.exit 0)) (.seq (.block 1 (.seq (.reg [jm 10 8, jm 5 10]) (.seq (.reg [jm 11 1, jm 12 0, jm 13 5, jx 14 2 12 13, jg 15 2 14, jn 16 (.calv (.t 11) [(.t 15)])]) (.cond (.t 16) (.seq (.reg [jm 17 5, jm 4 17]) .ret) .skip)))) (.reg [ju .add 18 8 1, jm 8 18]))))
def Hz : IC := (.seq (.reg [jc 4 (j6 0)]) (.seq (.seq (.reg [jm 6 0, jL 7 6, jc 8 (j6 0)]) (.block 0 (.loop gH))) (.seq (.reg [jc 4 (j6 (-1))]) .ret)))
theorem sJ : C9 Tryz.prog Tryz.f76 = some ⟨19, Hz, [(.tmp 4)]⟩ := by kernel_rfl
theorem GN (N : Nat) (a0 : List AU) : ∀ (n : Nat) (x : Int) (y : Unit ⊕ Int), BL N a0 n x = some y → WX Tryz.prog (fun _ => false) (.loop gH) ((fun (x : Int) => ⟨AX [(0, .sl 2 (List.map AV a0)), (1, .clo 56 []), (7, j6 (a0.length : Int)), (8, j6 x)], AX []⟩) x) ((Sum.elim (fun y e s => e = .exit 0 ∧ s = ⟨AX [], AX []⟩) (fun y e s => e = .ret ∧ s = ⟨AX [(4, j6 y)], AX []⟩) : (Unit ⊕ Int) → Xt → St → Prop) y) := by
 refine FB _ _ (BL N a0) (CB N a0) (fun _ => rfl) (fun _ _ => rfl) ?_
 rintro rec v8l6 y h
 refine AA (AB ?_)
 refine wq rfl ?_
 refine AA ?_
 refine EN h rfl (fun c1 h => ?_) (fun c1 h => ?_)
 refine BH (AA (CS (AA (AB ?_))))
 iterate 2 refine wq rfl ?_
 refine AA (AB ?_)
 iterate 3 refine wq rfl ?_
 obtain ⟨M7, QL, h⟩ := AQ h
 refine AY rfl (EW (cs := [.str M7.Attr, .str M7.Value]) QL rfl rfl rfl) ?_
 refine AY (p := AV M7) rfl rfl ?_
 obtain ⟨YM, hx16, h⟩ := AQ h
 refine CX rfl (WI (WS N _ _ hx16) rfl rfl rfl (.cons A8 .nil) rfl rfl rfl) ?_
 refine EN h rfl (fun c2 h => ?_) (fun c2 h => ?_)
 refine AA (AB ?_)
 iterate 2 refine wq rfl ?_
 obtain rfl := AP h
 exact F4 (st1 := ⟨AX [(4, j6 v8l6)], AX []⟩) (cq rfl) ⟨rfl, rfl⟩
 refine BH (AB ?_)
 refine AY (p := j6 (CE (v8l6 + (1 : Int)))) rfl rfl ?_
 refine wq rfl ?_
 exact ⟨(CE (v8l6 + (1 : Int))), (cq rfl), h⟩
 cases AP h
 exact ED (st1 := ⟨AX [], AX []⟩) (cq rfl) ⟨rfl, rfl⟩
theorem GY (N : Nat) (a0 : List AU) (r : Int) (h : E8 N a0 = some r) : Sat Tryz.prog 76 AC [.sl 2 (List.map AV a0), .clo 56 []] (j6 r) AC := by
 refine EO mixed Tryz.func76 sJ (rs := [j6 r]) rfl rfl ?_
 refine AA (AB ?_)
 refine wq rfl ?_
 iterate 2 refine AA ?_
 refine AB ?_
 refine wq rfl ?_
 refine AY rfl (CR rfl) ?_
 refine wq rfl ?_
 refine CS ?_
 obtain ⟨y3, hy3, h⟩ := AQ h
 refine R5 (GN N a0 N _ _ hy3) (cq rfl) ?_
 clear hy3
 rcases y3 with y3 | y3
 rintro e s ⟨rfl, rfl⟩
 refine AA (AB ?_)
 refine wq rfl ?_
 cases AP h
 refine BZ ?_
 exact ⟨nofun, rfl, rfl⟩
 rintro e s ⟨rfl, rfl⟩
 obtain rfl := AP h
 exact ⟨nofun, rfl, rfl⟩
def Ir : IC := (.seq (.reg [jc 4 (.bool false)]) (.seq (.reg [jm 5 0, jm 6 1, jn 7 (.call 76 [(.t 5), (.t 6)]), ju .geq 8 7 0, jm 4 8]) .ret))
theorem sO : C9 Tryz.prog Tryz.f55 = some ⟨9, Ir, [(.tmp 4)]⟩ := by kernel_rfl
theorem GH (N : Nat) (a0 : List AU) (r : Bool) (h : DC N a0 = some r) : Sat Tryz.prog 55 AC [.sl 2 (List.map AV a0), .clo 56 []] (.bool r) AC := by
 refine EO mixed Tryz.func55 sO (rs := [.bool r]) rfl rfl ?_
 refine AA (AB ?_)
 refine wq rfl ?_
 refine AA (AB ?_)
 iterate 2 refine wq rfl ?_
 obtain ⟨x7, hx7, h⟩ := AQ h
 refine CX rfl (CZ (GY N _ _ hx7) rfl (.cons A8 (.cons A8 .nil)) rfl rfl rfl) ?_
 iterate 2 refine wq rfl ?_
 cases AP h
 refine BZ ?_
 exact ⟨nofun, rfl, rfl⟩
def k28 : IC := (.seq (.reg [jc 2 (.bool false)]) (.seq (.seq (.reg [jm 3 0, jn 4 (.call 54 [(.t 3)]), jn 5 (.un .not (.t 4)), jm 6 5, jf 6 7 (.mov (.t 0)), jf 6 8 (.len false (.t 7)), jf 6 9 (.bin .geq (.t 8) (ji 4)), jo 10 6 9]) (.cond (.t 10) (.seq (.reg [jc 2 (.bool false)]) .ret) .skip)) (.seq (.reg [jm 11 0, jn 12 (.call 55 [(.t 11), (.c (.clo 56 []))]), jn 13 (.un .not (.t 12)), jm 2 13]) .ret)))
theorem Jo : C9 Tryz.prog Tryz.f28 = some ⟨14, k28, [(.tmp 2)]⟩ := by kernel_rfl
theorem TA (N : Nat) (a0 : List AU) (r : Bool) (h : O0 N a0 = some r) : Sat Tryz.prog 28 AC [.sl 2 (List.map AV a0)] (.bool r) AC := by
 refine EO mixed Tryz.func28 Jo (rs := [.bool r]) rfl rfl ?_
 refine AA (AB ?_)
 refine wq rfl ?_
 refine AA ?_
 obtain ⟨g1, hg1, h⟩ := AQ h
 refine GV ⟨AX [(0, .sl 2 (List.map AV a0)), (10, .bool g1)], AX []⟩ ?_ ?_
 have h := hg1
 refine AB ?_
 refine wq rfl ?_
 obtain ⟨x4, hx4, h⟩ := AQ h
 refine CX rfl (CZ (XW N _ _ hx4) rfl (.cons A8 .nil) rfl rfl rfl) ?_
 iterate 2 refine wq rfl ?_
 rcases D7 h with ⟨c2, h⟩ | ⟨c2, h⟩
 iterate 3 refine D8 (gn rfl c2) ?_
 refine AY rfl (BF c2 rfl rfl) ?_
 obtain rfl := AP h
 exact cq rfl
 refine AY (gy rfl c2) rfl ?_
 refine AY (gy rfl c2) (CR rfl) ?_
 refine AY (gy rfl c2) rfl ?_
 refine AY rfl (BD c2 rfl rfl) ?_
 cases AP h
 exact cq rfl
 clear hg1
 refine EN h rfl (fun c3 h => ?_) (fun c3 h => ?_)
 refine AA (AB ?_)
 refine wq rfl ?_
 obtain rfl := AP h
 refine BZ ?_
 exact ⟨nofun, rfl, rfl⟩
 refine BH (AA (AB ?_))
 refine wq rfl ?_
 obtain ⟨LF, ZA, h⟩ := AQ h
 refine CX rfl (CZ (GH N _ _ ZA) rfl (.cons A8 (.cons A8 .nil)) rfl rfl rfl) ?_
 iterate 2 refine wq rfl ?_
 cases AP h
 refine BZ ?_
 exact ⟨nofun, rfl, rfl⟩
def k60 : IC := (.seq (.reg [jc 3 (.bool false)]) (.seq (.reg [ja 4 1 1, jl 5 1 4, jm 6 0, jn 7 (.call 57 [(.t 5), (.t 6)]), ju .neq 8 7 0, jm 3 8]) .ret))
theorem Ik : C9 Tryz.prog Tryz.f60 = some ⟨9, k60, [(.tmp 3)]⟩ := by kernel_rfl
theorem WC (N : Nat) (a0 : List UInt8) (c0 : BA) (r : Bool) (h : PN N a0 c0 = some r) : Sat Tryz.prog 60 AC [.str a0, .ep [j6 c0.Kind, .str c0.Attr, .sl 1 (List.map PV.str c0.Values)]] (.bool r) AC := by
 refine EO mixed Tryz.func60 Ik (rs := [.bool r]) rfl rfl ?_
 refine AA (AB ?_)
 refine wq rfl ?_
 refine AA (AB ?_)
 refine AY (p := .ep [.str c0.Attr, .sl 1 (List.map PV.str c0.Values)]) rfl rfl ?_
 iterate 2 refine wq rfl ?_
 obtain ⟨x7, hx7, h⟩ := AQ h
 refine CX rfl (CZ (SX N _ _ _ hx7) rfl (.cons A8 (.cons A8 .nil)) rfl rfl rfl) ?_
 iterate 2 refine wq rfl ?_
 cases AP h
 refine BZ ?_
 exact ⟨nofun, rfl, rfl⟩
def gF : IC := (.seq (.reg [jb .lss 9 8 7]) (.seq (.cond (.t 9) .skip (.exit 0)) (.seq (.block 1 (.seq (.reg [jm 10 8, jm 5 10]) (.seq (.reg [jm 11 1, jm 12 0, jm 13 5, jx 14 1 12 13, jl 15 1 14, jn 16 (.calv (.t 11) [(.t 15)])]) (.cond (.t 16) (.seq (.reg [jm 17 5, jm 4 17]) .ret) .skip)))) (.reg [ju .add 18 8 1, jm 8 18]))))
def Hr : IC := (.seq (.reg [jc 4 (j6 0)]) (.seq (.seq (.reg [jm 6 0, jL 7 6, jc 8 (j6 0)]) (.block 0 (.loop gF))) (.seq (.reg [jc 4 (j6 (-1))]) .ret)))
theorem sH : C9 Tryz.prog Tryz.f80 = some ⟨19, Hr, [(.tmp 4)]⟩ := by kernel_rfl
theorem GX (N : Nat) (a0 : List (List UInt8)) (GZ : BA) : ∀ (n : Nat) (x : Int) (y : Unit ⊕ Int), BM N a0 GZ n x = some y → WX Tryz.prog (fun _ => false) (.loop gF) ((fun (x : Int) => ⟨AX [(0, .sl 1 (List.map PV.str a0)), (1, .clo 60 [.ep [j6 GZ.Kind, .str GZ.Attr, .sl 1 (List.map PV.str GZ.Values)]]), (7, j6 (a0.length : Int)), (8, j6 x)], AX []⟩) x) ((Sum.elim (fun y e s => e = .exit 0 ∧ s = ⟨AX [], AX []⟩) (fun y e s => e = .ret ∧ s = ⟨AX [(4, j6 y)], AX []⟩) : (Unit ⊕ Int) → Xt → St → Prop) y) := by
 refine FB _ _ (BM N a0 GZ) (CG N a0 GZ) (fun _ => rfl) (fun _ _ => rfl) ?_
 rintro rec v8l6 y h
 refine AA (AB ?_)
 refine wq rfl ?_
 refine AA ?_
 refine EN h rfl (fun c1 h => ?_) (fun c1 h => ?_)
 refine BH (AA (CS (AA (AB ?_))))
 iterate 2 refine wq rfl ?_
 refine AA (AB ?_)
 iterate 3 refine wq rfl ?_
 obtain ⟨M7, QL, h⟩ := AQ h
 refine AY rfl (EW (cs := [.str M7]) QL rfl rfl rfl) ?_
 refine wq rfl ?_
 obtain ⟨YM, hx16, h⟩ := AQ h
 refine CX rfl (WI (WC N _ _ _ hx16) rfl rfl rfl (.cons A8 (.cons A8 .nil)) rfl rfl rfl) ?_
 refine EN h rfl (fun c2 h => ?_) (fun c2 h => ?_)
 refine AA (AB ?_)
 iterate 2 refine wq rfl ?_
 obtain rfl := AP h
 exact F4 (st1 := ⟨AX [(4, j6 v8l6)], AX []⟩) (cq rfl) ⟨rfl, rfl⟩
 refine BH (AB ?_)
 refine AY (p := j6 (CE (v8l6 + (1 : Int)))) rfl rfl ?_
 refine wq rfl ?_
 exact ⟨(CE (v8l6 + (1 : Int))), (cq rfl), h⟩
 cases AP h
 exact ED (st1 := ⟨AX [], AX []⟩) (cq rfl) ⟨rfl, rfl⟩
theorem H5 (N : Nat) (a0 : List (List UInt8)) (GZ : BA) (r : Int) (h : EB N a0 GZ = some r) : Sat Tryz.prog 80 AC [.sl 1 (List.map PV.str a0), .clo 60 [.ep [j6 GZ.Kind, .str GZ.Attr, .sl 1 (List.map PV.str GZ.Values)]]] (j6 r) AC := by
 refine EO mixed Tryz.func80 sH (rs := [j6 r]) rfl rfl ?_
 refine AA (AB ?_)
 refine wq rfl ?_
 iterate 2 refine AA ?_
 refine AB ?_
 refine wq rfl ?_
 refine AY rfl (CR rfl) ?_
 refine wq rfl ?_
 refine CS ?_
 obtain ⟨y3, hy3, h⟩ := AQ h
 refine R5 (GX N a0 GZ N _ _ hy3) (cq rfl) ?_
 clear hy3
 rcases y3 with y3 | y3
 rintro e s ⟨rfl, rfl⟩
 refine AA (AB ?_)
 refine wq rfl ?_
 cases AP h
 refine BZ ?_
 exact ⟨nofun, rfl, rfl⟩
 rintro e s ⟨rfl, rfl⟩
 obtain rfl := AP h
 exact ⟨nofun, rfl, rfl⟩
def Il : IC := (.seq (.reg [jc 4 (.bool false)]) (.seq (.reg [jm 5 0, jm 6 1, jn 7 (.call 80 [(.t 5), (.t 6)]), ju .geq 8 7 0, jm 4 8]) .ret))
theorem sM : C9 Tryz.prog Tryz.f59 = some ⟨9, Il, [(.tmp 4)]⟩ := by kernel_rfl
theorem GK (N : Nat) (a0 : List (List UInt8)) (GZ : BA) (r : Bool) (h : CL N a0 GZ = some r) : Sat Tryz.prog 59 AC [.sl 1 (List.map PV.str a0), .clo 60 [.ep [j6 GZ.Kind, .str GZ.Attr, .sl 1 (List.map PV.str GZ.Values)]]] (.bool r) AC := by
 refine EO mixed Tryz.func59 sM (rs := [.bool r]) rfl rfl ?_
 refine AA (AB ?_)
 refine wq rfl ?_
 refine AA (AB ?_)
 iterate 2 refine wq rfl ?_
 obtain ⟨x7, hx7, h⟩ := AQ h
 refine CX rfl (CZ (H5 N _ _ _ hx7) rfl (.cons A8 (.cons A8 .nil)) rfl rfl rfl) ?_
 iterate 2 refine wq rfl ?_
 cases AP h
 refine BZ ?_
 exact ⟨nofun, rfl, rfl⟩
def wY : IC := (.seq (.reg [jb .lss 12 11 10]) (.seq (.cond (.t 12) .skip (.exit 0)) (.seq (.block 1 (.seq (.reg [jx 13 3 9 11, jg 14 3 13, jn 6 (.box 44 (.c (.agg [(j6 0), (.str []), .nl]))), js 3 6 14]) (.seq (.reg [ja 16 1 6, jl 17 1 16, jn 18 (.call 58 [(.t 17)]), jm 15 18, je 19 0 15, je 20 1 15, jn 7 (.box 90 (.c (.agg [(.str []), (j6 0), (.bool false)]))), js 3 7 19, jm 8 20]) (.seq (.seq (.reg [jm 21 8, jn 22 (.un .not (.t 21)), jm 23 22, jf 23 24 (.fda 0 (.t 7)), jf 23 25 (.load 1 false (.t 24)), jf 23 26 (.fda 1 (.t 6)), jf 23 27 (.load 1 false (.t 26)), jf 23 28 (.bin .neq (.t 25) (.t 27)), jo 29 23 28, jm 30 29, jf 30 31 (.fda 1 (.t 6)), jf 30 32 (.load 1 false (.t 31)), jf 30 33 (.bin .eql (.t 32) (.c (.str [101, 110, 116, 114, 121, 105, 100]))), jo 34 30 33, jm 35 34, jf 35 36 (.fda 0 (.t 6)), jf 35 37 (.load 1 false (.t 36)), jf 35 38 (.bin .lss (.t 37) (ji 1)), jo 39 35 38, jm 40 39, jf 40 41 (.fda 0 (.t 6)), jf 40 42 (.load 1 false (.t 41)), jf 40 43 (.mov (.t 1)), jf 40 44 (.bin .gtr (.t 42) (.t 43)), jo 45 40 44, jm 46 45, jf 46 47 (.fda 2 (.t 6)), jf 46 48 (.load 1 false (.t 47)), jf 46 49 (.len false (.t 48)), jf 46 50 (.bin .gtr (.t 49) (ji 12)), jo 51 46 50, jm 52 51, jf 52 53 (.fda 0 (.t 6)), jf 52 54 (.load 1 false (.t 53)), jf 52 55 (.bin .eql (.t 54) (ji 1)), jf 52 56 (.mov (.t 55)), jt 56 57 (.fda 2 (.t 6)), jt 56 58 (.load 1 false (.t 57)), jt 56 59 (.len false (.t 58)), jt 56 60 (.bin .eql (.t 59) (ji 0)), jf 52 61 (.pick (.t 56) (.t 60) jA), jo 62 52 61]) (.cond (.t 62) (.seq (.reg [jc 4 (.bool false)]) .ret) .skip)) (.seq (.reg [ja 63 2 6, jl 64 1 63, jn 65 (.mkf 60 [(.t 6)]), jn 66 (.call 59 [(.t 64), (.t 65)])]) (.cond (.t 66) (.seq (.reg [jc 4 (.bool false)]) .ret) .skip)))))) (.reg [ju .add 67 11 1, jm 11 67]))))
def k29 : IC := (.seq (.reg [jc 4 (.bool false)]) (.seq (.seq (.reg [jm 9 0, jL 10 9, jc 11 (j6 0)]) (.block 0 (.loop wY))) (.seq (.reg [jm 68 0, jL 69 68, ju .leq 70 69 8, jm 4 70]) .ret)))
theorem Jn : C9 Tryz.prog Tryz.f29 = some ⟨71, k29, [(.tmp 4)]⟩ := by kernel_rfl
theorem WM (N : Nat) (a0 : List BA) (a1 : Int) : ∀ (n : Nat) (x : Int) (y : Unit ⊕ Bool), G7 N a0 a1 n x = some y → WX Tryz.prog (fun _ => false) (.loop wY) ((fun (x : Int) => ⟨AX [(0, .sl 3 (List.map AJ a0)), (1, j6 a1), (9, .sl 3 (List.map AJ a0)), (10, j6 (a0.length : Int)), (11, j6 x)], AX []⟩) x) ((Sum.elim (fun y e s => e = .exit 0 ∧ s = ⟨AX [(0, .sl 3 (List.map AJ a0))], AX []⟩) (fun y e s => e = .ret ∧ s = ⟨AX [(4, .bool y)], AX []⟩) : (Unit ⊕ Bool) → Xt → St → Prop) y) := by
 refine FB _ _ (G7 N a0 a1) (JK N a0 a1) (fun _ => rfl) (fun _ _ => rfl) ?_
 rintro rec v11l6 y h
 refine AA (AB ?_)
 refine wq rfl ?_
 refine AA ?_
 refine EN h rfl (fun c1 h => ?_) (fun c1 h => ?_)
 refine BH (AA (CS (AA (AB ?_))))
 obtain ⟨K5, Z9, h⟩ := AQ h
 refine AY rfl (EW (cs := [j6 K5.Kind, .str K5.Attr, .sl 1 (List.map PV.str K5.Values)]) Z9 rfl rfl rfl) ?_
 refine AY (p := AJ K5) rfl rfl ?_
 refine CX rfl (FE 46406 rfl rfl rfl rfl rfl) ?_
 refine EC (e' := AJ K5) rfl rfl rfl rfl rfl rfl rfl rfl nofun rfl ?_
 refine AA (AB ?_)
 iterate 2 refine wq rfl ?_
 obtain ⟨aB, j4, h⟩ := AQ h
 refine CX rfl (CZ (UD N _ _ j4) rfl (.cons A8 .nil) rfl rfl rfl) ?_
 iterate 3 refine wq rfl ?_
 refine CX rfl (FE 46407 rfl rfl rfl rfl rfl) ?_
 refine EC (e' := FI aB.1) rfl rfl rfl rfl rfl rfl rfl rfl nofun rfl ?_
 refine wq rfl ?_
 refine AA ?_
 obtain ⟨g2, hg2, h⟩ := AQ h
 refine GV ⟨AX [(0, .sl 3 (List.map AJ a0)), (1, j6 a1), (6, .ptr 46406 0 0), (9, .sl 3 (List.map AJ a0)), (10, j6 (a0.length : Int)), (11, j6 v11l6), (62, .bool g2)], AX [(46406, ⟨3, false, [AJ K5]⟩)]⟩ ?_ ?_
 have h := hg2
 refine AB ?_
 iterate 3 refine wq rfl ?_
 rcases D7 h with ⟨c3, h⟩ | ⟨c3, h⟩
 iterate 5 refine D8 (gn rfl c3) ?_
 refine AY rfl (BF c3 rfl rfl) ?_
 refine wq rfl ?_
 iterate 3 refine D8 rfl ?_
 iterate 2 refine wq rfl ?_
 iterate 3 refine D8 rfl ?_
 iterate 2 refine wq rfl ?_
 iterate 4 refine D8 rfl ?_
 iterate 2 refine wq rfl ?_
 iterate 4 refine D8 rfl ?_
 iterate 2 refine wq rfl ?_
 iterate 4 refine D8 rfl ?_
 iterate 4 refine D8 (gu rfl) ?_
 refine D8 rfl ?_
 refine wq rfl ?_
 obtain rfl := AP h
 exact cq rfl
 iterate 5 refine AY (gy rfl c3) rfl ?_
 refine AY rfl (BD c3 rfl rfl) ?_
 refine wq rfl ?_
 rcases D7 h with ⟨c4, h⟩ | ⟨c4, h⟩
 iterate 3 refine D8 (gn rfl c4) ?_
 refine AY rfl (BF c4 rfl rfl) ?_
 refine wq rfl ?_
 iterate 3 refine D8 rfl ?_
 iterate 2 refine wq rfl ?_
 iterate 4 refine D8 rfl ?_
 iterate 2 refine wq rfl ?_
 iterate 4 refine D8 rfl ?_
 iterate 2 refine wq rfl ?_
 iterate 4 refine D8 rfl ?_
 iterate 4 refine D8 (gu rfl) ?_
 refine D8 rfl ?_
 refine wq rfl ?_
 obtain rfl := AP h
 exact cq rfl
 iterate 3 refine AY (gy rfl c4) rfl ?_
 refine AY rfl (BD c4 rfl rfl) ?_
 refine wq rfl ?_
 rcases D7 h with ⟨c5, h⟩ | ⟨c5, h⟩
 iterate 3 refine D8 (gn rfl c5) ?_
 refine AY rfl (BF c5 rfl rfl) ?_
 refine wq rfl ?_
 iterate 4 refine D8 rfl ?_
 iterate 2 refine wq rfl ?_
 iterate 4 refine D8 rfl ?_
 iterate 2 refine wq rfl ?_
 iterate 4 refine D8 rfl ?_
 iterate 4 refine D8 (gu rfl) ?_
 refine D8 rfl ?_
 refine wq rfl ?_
 obtain rfl := AP h
 exact cq rfl
 iterate 3 refine AY (gy rfl c5) rfl ?_
 refine AY rfl (BD c5 rfl rfl) ?_
 refine wq rfl ?_
 rcases D7 h with ⟨c6, h⟩ | ⟨c6, h⟩
 iterate 4 refine D8 (gn rfl c6) ?_
 refine AY rfl (BF c6 rfl rfl) ?_
 refine wq rfl ?_
 iterate 4 refine D8 rfl ?_
 iterate 2 refine wq rfl ?_
 iterate 4 refine D8 rfl ?_
 iterate 4 refine D8 (gu rfl) ?_
 refine D8 rfl ?_
 refine wq rfl ?_
 obtain rfl := AP h
 exact cq rfl
 iterate 4 refine AY (gy rfl c6) rfl ?_
 refine AY rfl (BD c6 rfl rfl) ?_
 refine wq rfl ?_
 rcases D7 h with ⟨c7, h⟩ | ⟨c7, h⟩
 iterate 4 refine D8 (gn rfl c7) ?_
 refine AY rfl (BF c7 rfl rfl) ?_
 refine wq rfl ?_
 iterate 4 refine D8 rfl ?_
 iterate 4 refine D8 (gu rfl) ?_
 refine D8 rfl ?_
 refine wq rfl ?_
 obtain rfl := AP h
 exact cq rfl
 iterate 2 refine AY (gy rfl c7) rfl ?_
 refine AY (gy rfl c7) (CR rfl) ?_
 refine AY (gy rfl c7) rfl ?_
 refine AY rfl (BD c7 rfl rfl) ?_
 refine wq rfl ?_
 rcases D7 h with ⟨c8, h⟩ | ⟨c8, h⟩
 iterate 4 refine D8 (gn rfl c8) ?_
 iterate 4 refine D8 (gu rfl) ?_
 refine D8 (gn rfl c8) ?_
 refine AY rfl (BF c8 rfl rfl) ?_
 obtain rfl := AP h
 exact cq rfl
 iterate 4 refine AY (gy rfl c8) rfl ?_
 rcases D7 h with ⟨c9, h⟩ | ⟨c9, h⟩
 iterate 2 refine AY (gy rfl c9) rfl ?_
 refine AY (gy rfl c9) (CR rfl) ?_
 refine AY (gy rfl c9) rfl ?_
 refine AY (gy rfl c8) (BF c9 rfl rfl) ?_
 refine AY rfl (BD c8 rfl rfl) ?_
 cases AP h
 exact cq rfl
 iterate 4 refine D8 (gn rfl c9) ?_
 refine AY (gy rfl c8) (BD c9 rfl rfl) ?_
 refine AY rfl (BD c8 rfl rfl) ?_
 obtain rfl := AP h
 exact cq rfl
 clear hg2
 refine EN h rfl (fun c10 h => ?_) (fun c10 h => ?_)
 refine AA (AB ?_)
 refine wq rfl ?_
 obtain rfl := AP h
 exact F4 (st1 := ⟨AX [(4, .bool false)], AX []⟩) (cq rfl) ⟨rfl, rfl⟩
 refine BH (AA (AB ?_))
 iterate 3 refine wq rfl ?_
 refine wn (RO 46406 rfl rfl rfl) ?_
 obtain ⟨x66, hx66, h⟩ := AQ h
 refine CX rfl (CZ (GK N _ _ _ hx66) rfl (.cons A8 (.cons A8 .nil)) rfl rfl rfl) ?_
 refine EN h rfl (fun c11 h => ?_) (fun c11 h => ?_)
 refine AA (AB ?_)
 refine wq rfl ?_
 obtain rfl := AP h
 exact F4 (st1 := ⟨AX [(4, .bool false)], AX []⟩) (cq rfl) ⟨rfl, rfl⟩
 refine BH (AB ?_)
 refine AY (p := j6 (CE (v11l6 + (1 : Int)))) rfl rfl ?_
 refine wq rfl ?_
 exact ⟨(CE (v11l6 + (1 : Int))), (cq rfl), h⟩
 cases AP h
 exact ED (st1 := ⟨AX [(0, .sl 3 (List.map AJ a0))], AX []⟩) (cq rfl) ⟨rfl, rfl⟩
theorem RD (N : Nat) (a0 : List BA) (a1 : Int) (r : Bool) (h : LW N a0 a1 = some r) : Sat Tryz.prog 29 AC [.sl 3 (List.map AJ a0), j6 a1] (.bool r) AC := by
 refine EO mixed Tryz.func29 Jn (rs := [.bool r]) rfl rfl ?_
 refine AA (AB ?_)
 refine wq rfl ?_
 iterate 2 refine AA ?_
 refine AB ?_
 refine wq rfl ?_
 refine AY rfl (CR rfl) ?_
 refine wq rfl ?_
 refine CS ?_
 obtain ⟨Ee, hy12, h⟩ := AQ h
 refine R5 (WM N a0 a1 N _ _ hy12) (cq rfl) ?_
 clear hy12
 rcases Ee with Ee | Ee
 rintro e s ⟨rfl, rfl⟩
 refine AA (AB ?_)
 refine wq rfl ?_
 refine AY rfl (CR rfl) ?_
 iterate 2 refine wq rfl ?_
 cases AP h
 refine BZ ?_
 exact ⟨nofun, rfl, rfl⟩
 rintro e s ⟨rfl, rfl⟩
 obtain rfl := AP h
 exact ⟨nofun, rfl, rfl⟩
end Go.Gp
end
