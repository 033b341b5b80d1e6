/- A part of the proof: functions of the program and what they compute. -/
import Derived.Test.YtbndinjjpafmjaaDoorA5
import Derived.Test.YtbndinjjpafmjaaDoorA6
import Derived.Test.YtbndinjjpafmjaaDoorA4
import Derived.Shelf.Strings.Builder1
import Derived.Shelf.Strings.Builder2
import Derived.Shelf.Strings.OnBuilder
import Derived.Shelf.Strings.Trim
import Derived.Shelf.Small.Utf8
import Derived.Shelf.Small.Strs
import Derived.Shelf.Small.Wraps
import Derived.Shelf.Strings.Search1
import Derived.Shelf.Strings.Search2
import Derived.Shelf.Strings.Search3
import Derived.Shelf.Strings.Cut
import Derived.Shelf.Strings.Count
import Derived.Shelf.LaysM
import Derived.Shelf.Strings.Shaped
import Derived.Shelf.Strings.Prefix
import Derived.Shelf.Strings.Split
import Derived.Shelf.Strings.SplitShaped
import Derived.Shelf.Strings.Runes
import Derived.Shelf.Strings.AsciiSet
import Derived.Shelf.Unicode.DecodeSlow
import Derived.Shelf.Slices.Equal
import Derived.Shelf.Slices.Empties2
import Derived.Test.YtbndinjjpafmjaaDoorProg
section
set_option linter.unusedVariables false
set_option maxRecDepth 100000
namespace Go.Gp
open Go.Vd Go.RowKit Go.Proofs
theorem okTypes : okT Tryd.prog 6 [9] = true := by kernel_rfl
theorem op4 {p : PV} (h : Shp Tryd.prog 6 4 p) : ∃ a : Bool, p = PV.bool a ∧ True := h.bool_inv Tryd.underlying4
theorem op9 {p : PV} (h : Shp Tryd.prog 6 9 p) : ∃ a : List UInt8, p = PV.str a ∧ a.length ≤ maxLen := h.str_inv Tryd.underlying9
theorem op39 {p : PV} (h : Shp Tryd.prog 6 39 p) : ∃ a : List (List UInt8), p = (es 1 PV.str) a ∧ (a.length ≤ maxLen ∧ ∀ y0 ∈ a, y0.length ≤ maxLen) := by
  obtain ⟨xs, rfl, hl, hx⟩ := h.sl_inv (ts := [9]) Tryd.underlying39 (by kernel_rfl)
  obtain ⟨l, rfl, hb⟩ := map_of (e := PV.str) (B := fun y => y.length ≤ maxLen) xs fun x hx0 => by
    obtain ⟨cs, rfl, hc, hs⟩ := hx x hx0
    have ha : Vd.isAgg Tryd.prog 9 = false := by kernel_rfl
    rw [ha]
    obtain ⟨c, cs', rfl, hc'⟩ := cons_of hc
    obtain rfl := nil_of hc'
    exact op9 (hs 0 _ _ rfl rfl)
  exact ⟨l, rfl, by simpa using hl, hb⟩
theorem op41 (cs : List PV) (hc : cs.length = 5) (hs : ∀ (j : Nat) (u : TypeId) (q : PV), ([4, 9, 4, 9, 39] : List TypeId)[j]? = some u → cs[j]? = some q → Shp Tryd.prog 6 u q) : ∃ a : api_Rule, mkE true cs = e_api_Rule a ∧ b_api_Rule a := by
  obtain ⟨c0, cs0, rfl, hc0⟩ := cons_of hc
  obtain ⟨c1, cs1, rfl, hc1⟩ := cons_of hc0
  obtain ⟨c2, cs2, rfl, hc2⟩ := cons_of hc1
  obtain ⟨c3, cs3, rfl, hc3⟩ := cons_of hc2
  obtain ⟨c4, cs4, rfl, hc4⟩ := cons_of hc3
  obtain rfl := nil_of hc4
  obtain ⟨x0, rfl, h0⟩ := op4 (hs 0 _ _ rfl rfl)
  obtain ⟨x1, rfl, h1⟩ := op9 (hs 1 _ _ rfl rfl)
  obtain ⟨x2, rfl, h2⟩ := op4 (hs 2 _ _ rfl rfl)
  obtain ⟨x3, rfl, h3⟩ := op9 (hs 3 _ _ rfl rfl)
  obtain ⟨x4, rfl, h4⟩ := op39 (hs 4 _ _ rfl rfl)
  exact ⟨⟨x0, x1, x2, x3, x4⟩, rfl, ⟨h0, h1, h2, h3, h4⟩⟩
theorem op5 {p : PV} (h : Shp Tryd.prog 6 5 p) : ∃ a : UInt8, p = eb a ∧ True := h.u8_inv Tryd.underlying5
end Go.Gp
end
section
set_option linter.unusedVariables false
set_option linter.unusedSimpArgs false
set_option maxRecDepth 4000
namespace Go.Gp
open Go.Vd Go.RowKit Go.Proofs
def k70_l16 : IC := (.seq (.seq (.reg [⟨(some 22), (.mov (.t 7)), none⟩, ⟨(some 23), (.mov (.t 1)), none⟩, ⟨(some 24), (.bin .sub (.t 23) (.c (.int .i64 1))), none⟩, ⟨(some 25), (.bin .lss (.t 22) (.t 24)), none⟩]) (.cond (.t 25) .skip (.exit 0))) (.seq (.block 1 (.seq (.reg [⟨(some 29), (.mov (.t 0)), none⟩, ⟨(some 30), (.call 80 [(.t 29)]), none⟩, ⟨(some 28), (.mov (.t 30)), none⟩, ⟨(some 31), (.ext 0 (.t 28)), none⟩, ⟨(some 32), (.ext 1 (.t 28)), none⟩, ⟨(some 8), (.mov (.t 31)), none⟩, ⟨(some 9), (.mov (.t 32)), none⟩]) (.seq (.reg [⟨(some 33), (.mov (.t 6)), none⟩, ⟨(some 34), (.mov (.t 7)), none⟩, ⟨(some 35), (.mov (.t 0)), none⟩, ⟨(some 36), (.mov (.t 9)), none⟩, ⟨(some 37), (.slcs (.t 35) none (some (.t 36))), none⟩, ⟨(some 38), (.ixp 1 (.t 33) (.t 34)), none⟩, ⟨none, (.store 1 (.t 38) (.t 37)), none⟩]) (.reg [⟨(some 39), (.mov (.t 0)), none⟩, ⟨(some 40), (.mov (.t 9)), none⟩, ⟨(some 41), (.slcs (.t 39) (some (.t 40)) none), none⟩, ⟨(some 0), (.mov (.t 41)), none⟩])))) (.reg [⟨(some 26), (.mov (.t 7)), none⟩, ⟨(some 27), (.bin .add (.t 26) (.c (.int .i64 1))), none⟩, ⟨(some 7), (.mov (.t 27)), none⟩])))
def k70 : IC := (.seq (.reg [⟨(some 4), (.mov (.c .nl)), none⟩]) (.seq (.reg [⟨(some 10), (.mov (.t 0)), none⟩, ⟨(some 11), (.call 90 [(.t 10)]), none⟩, ⟨(some 5), (.mov (.t 11)), none⟩]) (.seq (.seq (.reg [⟨(some 12), (.mov (.t 1)), none⟩, ⟨(some 13), (.bin .lss (.t 12) (.c (.int .i64 0))), none⟩, ⟨(some 14), (.mov (.t 13)), none⟩, ⟨(some 15), (.mov (.t 1)), (some (14, false))⟩, ⟨(some 16), (.mov (.t 5)), (some (14, false))⟩, ⟨(some 17), (.bin .gtr (.t 15) (.t 16)), (some (14, false))⟩, ⟨(some 18), (.pick (.t 14) (.c (.bool true)) (.t 17)), none⟩]) (.cond (.t 18) (.reg [⟨(some 19), (.mov (.t 5)), none⟩, ⟨(some 1), (.mov (.t 19)), none⟩]) .skip)) (.seq (.reg [⟨(some 20), (.mov (.t 1)), none⟩, ⟨(some 21), (.mks 1 16 (.str []) (.t 20)), none⟩, ⟨(some 6), (.mov (.t 21)), none⟩]) (.seq (.seq (.reg [⟨(some 7), (.mov (.c (.int .i64 0))), none⟩]) (.block 0 (.loop k70_l16))) (.seq (.seq (.reg [⟨(some 42), (.mov (.t 1)), none⟩, ⟨(some 43), (.bin .gtr (.t 42) (.c (.int .i64 0))), none⟩]) (.cond (.t 43) (.reg [⟨(some 44), (.mov (.t 6)), none⟩, ⟨(some 45), (.mov (.t 1)), none⟩, ⟨(some 46), (.bin .sub (.t 45) (.c (.int .i64 1))), none⟩, ⟨(some 47), (.mov (.t 0)), none⟩, ⟨(some 48), (.ixp 1 (.t 44) (.t 46)), none⟩, ⟨none, (.store 1 (.t 48) (.t 47)), none⟩]) .skip)) (.seq (.reg [⟨(some 49), (.mov (.t 6)), none⟩, ⟨(some 4), (.mov (.t 49)), none⟩]) .ret)))))))
theorem k70_cf : cfunc Tryd.prog Tryd.f70 = some ⟨50, k70, [(.tmp 4)]⟩ := by kernel_rfl
theorem sat_strings_explode (N : Nat) (a0 : List UInt8) (a1 : Int) (r : List (List UInt8)) (h : strings_explode N a0 a1 = some r) : Sat Tryd.prog 70 noRows [.str a0, .int .i64 a1] (.sl 1 (List.map PV.str r)) noRows := by
  refine xsat mixed Tryd.func70 k70_cf (rs := [.sl 1 (List.map PV.str r)]) rfl rfl ?_
  refine xseq ?_
  refine xreg ?_
  refine wpp rfl rfl ?_
  refine xseq ?_
  refine xreg ?_
  refine wpp rfl rfl ?_
  cases h
end Go.Gp
end
section
namespace Go.Proofs
open Go.Shelf
def Tryd.lays156_ren : Go.Shelf.Ren := ⟨fun | 156 => 40 | 165 => 54 | 166 => 55 | 169 => 56 | 240 => 77 | 241 => 78 | 276 => 97 | 277 => 98 | n => n, fun | 31 => 39 | 9 => 9 | 3 => 3 | 4 => 4 | 0 => 0 | 20 => 20 | 72 => 83 | 76 => 87 | 70 => 81 | 37 => 35 | 75 => 86 | 127 => 104 | 164 => 114 | 5 => 5 | 80 => 89 | n => n, fun | n => n⟩
theorem Tryd.lays156 : Go.Proofs.Lays.n156 Tryd.prog Tryd.lays156_ren := {
  mixed := by kernel_rfl
  f156 := Tryd.func40.trans (congrArg some (by kernel_rfl))
  f165 := Tryd.func54.trans (congrArg some (by kernel_rfl))
  f166 := Tryd.func55.trans (congrArg some (by kernel_rfl))
  f169 := Tryd.func56.trans (congrArg some (by kernel_rfl))
  f240 := Tryd.func77.trans (congrArg some (by kernel_rfl))
  f241 := Tryd.func78.trans (congrArg some (by kernel_rfl))
  f276 := Tryd.func97.trans (congrArg some (by kernel_rfl))
  f277 := Tryd.func98.trans (congrArg some (by kernel_rfl))
  t0 := Tryd.underlying0
  a0 := Tryd.isAgg0
  z0 := Tryd.sizeOf0
  v0 := Tryd.zeroValue0
  t3 := Tryd.underlying3
  a3 := Tryd.isAgg3
  z3 := Tryd.sizeOf3
  v3 := Tryd.zeroValue3
  t4 := Tryd.underlying4
  a4 := Tryd.isAgg4
  z4 := Tryd.sizeOf4
  v4 := Tryd.zeroValue4
  t9 := Tryd.underlying9
  a9 := Tryd.isAgg9
  z9 := Tryd.sizeOf9
  v9 := Tryd.zeroValue9
  t20 := Tryd.underlying20
  a20 := Tryd.isAgg20
  z20 := Tryd.sizeOf20
  v20 := Tryd.zeroValue20
  t31 := Tryd.underlying39
  a31 := Tryd.isAgg39
  z31 := Tryd.sizeOf39
  v31 := Tryd.zeroValue39
  t37 := Tryd.underlying35
  a37 := Tryd.isAgg35
  z37 := Tryd.sizeOf35
  v37 := Tryd.zeroValue35
  t70 := Tryd.underlying81
  a70 := Tryd.isAgg81
  z70 := Tryd.sizeOf81
  v70 := Tryd.zeroValue81
  t72 := Tryd.underlying83
  a72 := Tryd.isAgg83
  z72 := Tryd.sizeOf83
  v72 := Tryd.zeroValue83
  t75 := Tryd.underlying86
  a75 := Tryd.isAgg86
  z75 := Tryd.sizeOf86
  v75 := Tryd.zeroValue86
  t76 := Tryd.underlying87
  a76 := Tryd.isAgg87
  z76 := Tryd.sizeOf87
  v76 := Tryd.zeroValue87
  t127 := Tryd.underlying104
  a127 := Tryd.isAgg104
  z127 := Tryd.sizeOf104
  v127 := Tryd.zeroValue104
  t164 := Tryd.underlying114
  a164 := Tryd.isAgg114
  z164 := Tryd.sizeOf114
  v164 := Tryd.zeroValue114 }
theorem Tryd.Builder_Extra_156 : Builder.Extra Tryd.prog Tryd.lays156_ren := {
  sizeBuilder := by kernel_rfl
  liesBuilder := by kernel_rfl
  t5 := Tryd.underlying5
  a5 := Tryd.isAgg5
  z5 := Tryd.sizeOf5
  v5 := Tryd.zeroValue5
  infoByte := by kernel_rfl
  cellsByte := by kernel_rfl
  sizeByte := by kernel_rfl
  neB5 := by decide }
open Go.RowKit in
theorem Tryd.strings_Join_none (a : Option Addr) (c : Nat) (sep : ByteArray) (w : World) :
    Calls Tryd.prog 40 #[.slice a 0 c, .string sep] w fun e w' => e = .returned (.string ⟨#[]⟩) ∧ w' = w := Any.strings_Join_none Tryd.lays156 Tryd.Builder_Extra_156 a c sep w
open Go.RowKit in
theorem Tryd.strings_Join (bk o c : Nat) (xs : List ByteArray) (sep : ByteArray) (w : World) (hcells : ∀ (j : Nat) x, xs[j]? = some x → w.cell? ⟨bk, o + j, none⟩ = some (.string x)) (hbk : bk < w.heap.size) (hN : xs.length ≤ 140737488355328) (hcap : xs.length ≤ c) (hlen : (Lib.join (xs.map (·.data.toList)) sep.data.toList).length ≤ 140737488355328) :
    Calls Tryd.prog 40 #[.slice (some ⟨bk, o, none⟩) xs.length c, .string sep] w fun e w' => e = .returned (.string ⟨(Lib.join (xs.map (·.data.toList)) sep.data.toList).toArray⟩) ∧ Below w.heap.size w w' := Any.strings_Join Tryd.lays156 Tryd.Builder_Extra_156 bk o c xs sep w hcells hbk hN hcap hlen
def Tryd.lays137_ren : Go.Shelf.Ren := ⟨fun | 137 => 51 | 217 => 73 | 266 => 93 | n => n, fun | 9 => 9 | 5 => 5 | 3 => 3 | n => n, fun | n => n⟩
theorem Tryd.lays137 : Go.Proofs.Lays.n137 Tryd.prog Tryd.lays137_ren := {
  mixed := by kernel_rfl
  f137 := Tryd.func51.trans (congrArg some (by kernel_rfl))
  f217 := Tryd.func73.trans (congrArg some (by kernel_rfl))
  f266 := Tryd.func93.trans (congrArg some (by kernel_rfl))
  t3 := Tryd.underlying3
  a3 := Tryd.isAgg3
  z3 := Tryd.sizeOf3
  v3 := Tryd.zeroValue3
  t5 := Tryd.underlying5
  a5 := Tryd.isAgg5
  z5 := Tryd.sizeOf5
  v5 := Tryd.zeroValue5
  t9 := Tryd.underlying9
  a9 := Tryd.isAgg9
  z9 := Tryd.sizeOf9
  v9 := Tryd.zeroValue9 }
open Go.RowKit in
theorem Tryd.strings_IndexByte (s : ByteArray) (c : Int) (w : World) :
    Calls Tryd.prog 51 #[.string s, .int .u8 c] w fun e w' => e = .returned (.int .i64 (Lib.indexByte s.data.toList c.toNat.toUInt8)) ∧ w' = w := Any.strings_IndexByte Tryd.lays137 s c w
def Tryd.lays103_ren : Go.Shelf.Ren := ⟨fun | 103 => 52 | 210 => 74 | 206 => 68 | n => n, fun | 9 => 9 | 4 => 4 | 24 => 79 | 3 => 3 | n => n, fun | n => n⟩
theorem Tryd.lays103 : Go.Proofs.Lays.n103 Tryd.prog Tryd.lays103_ren := {
  mixed := by kernel_rfl
  f103 := Tryd.func52.trans (congrArg some (by kernel_rfl))
  f206 := Tryd.func68.trans (congrArg some (by kernel_rfl))
  f210 := Tryd.func74.trans (congrArg some (by kernel_rfl))
  t3 := Tryd.underlying3
  a3 := Tryd.isAgg3
  z3 := Tryd.sizeOf3
  v3 := Tryd.zeroValue3
  t4 := Tryd.underlying4
  a4 := Tryd.isAgg4
  z4 := Tryd.sizeOf4
  v4 := Tryd.zeroValue4
  t9 := Tryd.underlying9
  a9 := Tryd.isAgg9
  z9 := Tryd.sizeOf9
  v9 := Tryd.zeroValue9
  t24 := Tryd.underlying79
  a24 := Tryd.isAgg79
  z24 := Tryd.sizeOf79
  v24 := Tryd.zeroValue79 }
open Go.RowKit in
theorem Tryd.strings_CutPrefix (s p : ByteArray) (w : World) :
    Calls Tryd.prog 52 #[.string s, .string p] w fun e w' => e = .returned (.tuple #[.string ⟨(Lib.trimPrefix s.data.toList p.data.toList).toArray⟩, .bool (Lib.hasPrefix s.data.toList p.data.toList)]) ∧ w' = w := Any.strings_CutPrefix Tryd.lays103 s p w
def Tryd.lays219_ren : Go.Shelf.Ren := ⟨fun | 219 => 92 | 217 => 73 | 225 => 108 | 224 => 109 | 267 => 110 | 266 => 93 | 314 => 115 | n => n, fun | 9 => 9 | 3 => 3 | 4 => 4 | 5 => 5 | 46 => 36 | 146 => 132 | 51 => 131 | n => n, fun | 1 => 0 | n => n⟩
theorem Tryd.lays219 : Go.Proofs.Lays.n219 Tryd.prog Tryd.lays219_ren := {
  mixed := by kernel_rfl
  f217 := Tryd.func73.trans (congrArg some (by kernel_rfl))
  f219 := Tryd.func92.trans (congrArg some (by kernel_rfl))
  f224 := Tryd.func109.trans (congrArg some (by kernel_rfl))
  f225 := Tryd.func108.trans (congrArg some (by kernel_rfl))
  f266 := Tryd.func93.trans (congrArg some (by kernel_rfl))
  f267 := Tryd.func110.trans (congrArg some (by kernel_rfl))
  f314 := Tryd.func115.trans (congrArg some (by kernel_rfl))
  t3 := Tryd.underlying3
  a3 := Tryd.isAgg3
  z3 := Tryd.sizeOf3
  v3 := Tryd.zeroValue3
  t4 := Tryd.underlying4
  a4 := Tryd.isAgg4
  z4 := Tryd.sizeOf4
  v4 := Tryd.zeroValue4
  t5 := Tryd.underlying5
  a5 := Tryd.isAgg5
  z5 := Tryd.sizeOf5
  v5 := Tryd.zeroValue5
  t9 := Tryd.underlying9
  a9 := Tryd.isAgg9
  z9 := Tryd.sizeOf9
  v9 := Tryd.zeroValue9
  t46 := Tryd.underlying36
  a46 := Tryd.isAgg36
  z46 := Tryd.sizeOf36
  v46 := Tryd.zeroValue36
  t51 := Tryd.underlying131
  a51 := Tryd.isAgg131
  z51 := Tryd.sizeOf131
  v51 := Tryd.zeroValue131
  t146 := Tryd.underlying132
  a146 := Tryd.isAgg132
  z146 := Tryd.sizeOf132
  v146 := Tryd.zeroValue132
  g1 := by kernel_rfl }
open Go.RowKit Go.Lib in
theorem Tryd.stringslite_Index_one (s : ByteArray) (c : UInt8) (w : World) :
    Calls Tryd.prog 92 #[.string s, .string ⟨#[c]⟩] w fun e w' => e = .returned (.int .i64 (Lib.indexByte s.data.toList c)) ∧ w' = w := Any.stringslite_Index_one Tryd.lays219 s c w
open Go.RowKit Go.Lib in
theorem Tryd.stringslite_Index (s sub : ByteArray) (m : Int) (w : World) (hs : s.size < 4294967281) (hm : w.cell? ⟨0, 0, none⟩ = some (.int .i64 m)) :
    Calls Tryd.prog 92 #[.string s, .string sub] w fun e w' => e = .returned (.int .i64 (Lib.index s.data.toList sub.data.toList)) ∧ w' = w := Any.stringslite_Index Tryd.lays219 s sub m w hs hm
def Tryd.lays143_ren : Go.Shelf.Ren := ⟨fun | 143 => 72 | 219 => 92 | 217 => 73 | 225 => 108 | 224 => 109 | 267 => 110 | 266 => 93 | 314 => 115 | n => n, fun | 9 => 9 | 3 => 3 | 4 => 4 | 5 => 5 | 46 => 36 | 146 => 132 | 51 => 131 | n => n, fun | 1 => 0 | n => n⟩
theorem Tryd.lays143 : Go.Proofs.Lays.n143 Tryd.prog Tryd.lays143_ren := {
  mixed := by kernel_rfl
  f143 := Tryd.func72.trans (congrArg some (by kernel_rfl))
  f217 := Tryd.func73.trans (congrArg some (by kernel_rfl))
  f219 := Tryd.func92.trans (congrArg some (by kernel_rfl))
  f224 := Tryd.func109.trans (congrArg some (by kernel_rfl))
  f225 := Tryd.func108.trans (congrArg some (by kernel_rfl))
  f266 := Tryd.func93.trans (congrArg some (by kernel_rfl))
  f267 := Tryd.func110.trans (congrArg some (by kernel_rfl))
  f314 := Tryd.func115.trans (congrArg some (by kernel_rfl))
  t3 := Tryd.underlying3
  a3 := Tryd.isAgg3
  z3 := Tryd.sizeOf3
  v3 := Tryd.zeroValue3
  t4 := Tryd.underlying4
  a4 := Tryd.isAgg4
  z4 := Tryd.sizeOf4
  v4 := Tryd.zeroValue4
  t5 := Tryd.underlying5
  a5 := Tryd.isAgg5
  z5 := Tryd.sizeOf5
  v5 := Tryd.zeroValue5
  t9 := Tryd.underlying9
  a9 := Tryd.isAgg9
  z9 := Tryd.sizeOf9
  v9 := Tryd.zeroValue9
  t46 := Tryd.underlying36
  a46 := Tryd.isAgg36
  z46 := Tryd.sizeOf36
  v46 := Tryd.zeroValue36
  t51 := Tryd.underlying131
  a51 := Tryd.isAgg131
  z51 := Tryd.sizeOf131
  v51 := Tryd.zeroValue131
  t146 := Tryd.underlying132
  a146 := Tryd.isAgg132
  z146 := Tryd.sizeOf132
  v146 := Tryd.zeroValue132
  g1 := by kernel_rfl }
open Go.RowKit Go.Lib in
theorem Tryd.strings_Index (s sub : ByteArray) (m : Int) (w : World) (hs : s.size < 4294967281) (hm : w.cell? ⟨0, 0, none⟩ = some (.int .i64 m)) :
    Calls Tryd.prog 72 #[.string s, .string sub] w fun e w' => e = .returned (.int .i64 (Lib.index s.data.toList sub.data.toList)) ∧ w' = w := Any.strings_Index Tryd.lays143 s sub m w hs hm
def Tryd.lays145_ren : Go.Shelf.Ren := ⟨fun | 145 => 83 | 220 => 102 | 219 => 92 | 217 => 73 | 225 => 108 | 224 => 109 | 267 => 110 | 266 => 93 | 314 => 115 | n => n, fun | 9 => 9 | 4 => 4 | 59 => 62 | 3 => 3 | 5 => 5 | 46 => 36 | 146 => 132 | 51 => 131 | n => n, fun | 1 => 0 | n => n⟩
theorem Tryd.lays145 : Go.Proofs.Lays.n145 Tryd.prog Tryd.lays145_ren := {
  mixed := by kernel_rfl
  f145 := Tryd.func83.trans (congrArg some (by kernel_rfl))
  f217 := Tryd.func73.trans (congrArg some (by kernel_rfl))
  f219 := Tryd.func92.trans (congrArg some (by kernel_rfl))
  f220 := Tryd.func102.trans (congrArg some (by kernel_rfl))
  f224 := Tryd.func109.trans (congrArg some (by kernel_rfl))
  f225 := Tryd.func108.trans (congrArg some (by kernel_rfl))
  f266 := Tryd.func93.trans (congrArg some (by kernel_rfl))
  f267 := Tryd.func110.trans (congrArg some (by kernel_rfl))
  f314 := Tryd.func115.trans (congrArg some (by kernel_rfl))
  t3 := Tryd.underlying3
  a3 := Tryd.isAgg3
  z3 := Tryd.sizeOf3
  v3 := Tryd.zeroValue3
  t4 := Tryd.underlying4
  a4 := Tryd.isAgg4
  z4 := Tryd.sizeOf4
  v4 := Tryd.zeroValue4
  t5 := Tryd.underlying5
  a5 := Tryd.isAgg5
  z5 := Tryd.sizeOf5
  v5 := Tryd.zeroValue5
  t9 := Tryd.underlying9
  a9 := Tryd.isAgg9
  z9 := Tryd.sizeOf9
  v9 := Tryd.zeroValue9
  t46 := Tryd.underlying36
  a46 := Tryd.isAgg36
  z46 := Tryd.sizeOf36
  v46 := Tryd.zeroValue36
  t51 := Tryd.underlying131
  a51 := Tryd.isAgg131
  z51 := Tryd.sizeOf131
  v51 := Tryd.zeroValue131
  t59 := Tryd.underlying62
  a59 := Tryd.isAgg62
  z59 := Tryd.sizeOf62
  v59 := Tryd.zeroValue62
  t146 := Tryd.underlying132
  a146 := Tryd.isAgg132
  z146 := Tryd.sizeOf132
  v146 := Tryd.zeroValue132
  g1 := by kernel_rfl }
open Go.RowKit Go.Lib in
theorem Tryd.strings_Cut (s sep : ByteArray) (m : Int) (w : World) (hs : s.size < 4294967281) (hm : w.cell? ⟨0, 0, none⟩ = some (.int .i64 m)) :
    Calls Tryd.prog 83 #[.string s, .string sep] w fun e w' => e = .returned (.tuple #[.string ⟨(Lib.cut s.data.toList sep.data.toList).1.toArray⟩, .string ⟨(Lib.cut s.data.toList sep.data.toList).2.1.toArray⟩, .bool (Lib.cut s.data.toList sep.data.toList).2.2]) ∧ ∃ n, w' = w.drewN n := Any.strings_Cut Tryd.lays145 s sep m w hs hm
def Tryd.lays138_ren : Go.Shelf.Ren := ⟨fun | 138 => 71 | 195 => 90 | 218 => 91 | 143 => 72 | 219 => 92 | 217 => 73 | 225 => 108 | 224 => 109 | 267 => 110 | 266 => 93 | 314 => 115 | n => n, fun | 9 => 9 | 3 => 3 | 4 => 4 | 5 => 5 | 0 => 0 | 46 => 36 | 146 => 132 | 51 => 131 | n => n, fun | 1 => 0 | n => n⟩
theorem Tryd.lays138 : Go.Proofs.Lays.n138 Tryd.prog Tryd.lays138_ren := {
  mixed := by kernel_rfl
  f138 := Tryd.func71.trans (congrArg some (by kernel_rfl))
  f143 := Tryd.func72.trans (congrArg some (by kernel_rfl))
  f195 := Tryd.func90.trans (congrArg some (by kernel_rfl))
  f217 := Tryd.func73.trans (congrArg some (by kernel_rfl))
  f218 := Tryd.func91.trans (congrArg some (by kernel_rfl))
  f219 := Tryd.func92.trans (congrArg some (by kernel_rfl))
  f224 := Tryd.func109.trans (congrArg some (by kernel_rfl))
  f225 := Tryd.func108.trans (congrArg some (by kernel_rfl))
  f266 := Tryd.func93.trans (congrArg some (by kernel_rfl))
  f267 := Tryd.func110.trans (congrArg some (by kernel_rfl))
  f314 := Tryd.func115.trans (congrArg some (by kernel_rfl))
  t0 := Tryd.underlying0
  a0 := Tryd.isAgg0
  z0 := Tryd.sizeOf0
  v0 := Tryd.zeroValue0
  t3 := Tryd.underlying3
  a3 := Tryd.isAgg3
  z3 := Tryd.sizeOf3
  v3 := Tryd.zeroValue3
  t4 := Tryd.underlying4
  a4 := Tryd.isAgg4
  z4 := Tryd.sizeOf4
  v4 := Tryd.zeroValue4
  t5 := Tryd.underlying5
  a5 := Tryd.isAgg5
  z5 := Tryd.sizeOf5
  v5 := Tryd.zeroValue5
  t9 := Tryd.underlying9
  a9 := Tryd.isAgg9
  z9 := Tryd.sizeOf9
  v9 := Tryd.zeroValue9
  t46 := Tryd.underlying36
  a46 := Tryd.isAgg36
  z46 := Tryd.sizeOf36
  v46 := Tryd.zeroValue36
  t51 := Tryd.underlying131
  a51 := Tryd.isAgg131
  z51 := Tryd.sizeOf131
  v51 := Tryd.zeroValue131
  t146 := Tryd.underlying132
  a146 := Tryd.isAgg132
  z146 := Tryd.sizeOf132
  v146 := Tryd.zeroValue132
  g1 := by kernel_rfl }
open Go.RowKit Go.Lib in
theorem Tryd.strings_Count_one (s : ByteArray) (c : UInt8) (w : World) :
    Calls Tryd.prog 71 #[.string s, .string ⟨#[c]⟩] w fun e w' => e = .returned (.int .i64 (Lib.countByte s.data.toList c)) ∧ w' = w := Any.strings_Count_one Tryd.lays138 s c w
open Go.RowKit Go.Lib in
theorem Tryd.strings_Count (s sub : ByteArray) (m : Int) (w : World) (hs : s.size < 4294967281) (hm : w.cell? ⟨0, 0, none⟩ = some (.int .i64 m)) (h2 : 2 ≤ sub.size) :
    Calls Tryd.prog 71 #[.string s, .string sub] w fun e w' => e = .returned (.int .i64 (Lib.countB s sub)) ∧ w' = w := Any.strings_Count Tryd.lays138 s sub m w hs hm h2
def Tryd.lays99_ren : Go.Shelf.Ren := ⟨fun | 99 => 103 | 206 => 68 | n => n, fun | 9 => 9 | 4 => 4 | 3 => 3 | n => n, fun | n => n⟩
theorem Tryd.lays99 : Go.Proofs.Lays.n99 Tryd.prog Tryd.lays99_ren := {
  mixed := by kernel_rfl
  f99 := Tryd.func103.trans (congrArg some (by kernel_rfl))
  f206 := Tryd.func68.trans (congrArg some (by kernel_rfl))
  t3 := Tryd.underlying3
  a3 := Tryd.isAgg3
  z3 := Tryd.sizeOf3
  v3 := Tryd.zeroValue3
  t4 := Tryd.underlying4
  a4 := Tryd.isAgg4
  z4 := Tryd.sizeOf4
  v4 := Tryd.zeroValue4
  t9 := Tryd.underlying9
  a9 := Tryd.isAgg9
  z9 := Tryd.sizeOf9
  v9 := Tryd.zeroValue9 }
open Go.RowKit Go.Lib in
theorem Tryd.strings_HasPrefix (s p : ByteArray) (w : World) :
    Calls Tryd.prog 103 #[.string s, .string p] w fun e w' => e = .returned (.bool (Lib.hasPrefix s.data.toList p.data.toList)) ∧ w' = w := Any.strings_HasPrefix Tryd.lays99 s p w
def Tryd.lays221_ren : Go.Shelf.Ren := ⟨fun | 221 => 50 | 268 => 70 | 138 => 71 | 143 => 72 | 195 => 90 | 197 => 80 | 218 => 91 | 219 => 92 | 260 => 99 | 217 => 73 | 225 => 108 | 224 => 109 | 267 => 110 | 266 => 93 | 314 => 115 | n => n, fun | 9 => 9 | 3 => 3 | 31 => 39 | 4 => 4 | 0 => 0 | 105 => 106 | 21 => 21 | 5 => 5 | 46 => 36 | 119 => 125 | 139 => 128 | 138 => 127 | 146 => 132 | 51 => 131 | n => n, fun | 1 => 0 | 3 => 1 | 4 => 2 | n => n⟩
theorem Tryd.lays221 : Go.Proofs.Lays.n221 Tryd.prog Tryd.lays221_ren := {
  mixed := by kernel_rfl
  f138 := Tryd.func71.trans (congrArg some (by kernel_rfl))
  f143 := Tryd.func72.trans (congrArg some (by kernel_rfl))
  f195 := Tryd.func90.trans (congrArg some (by kernel_rfl))
  f197 := Tryd.func80.trans (congrArg some (by kernel_rfl))
  f217 := Tryd.func73.trans (congrArg some (by kernel_rfl))
  f218 := Tryd.func91.trans (congrArg some (by kernel_rfl))
  f219 := Tryd.func92.trans (congrArg some (by kernel_rfl))
  f221 := Tryd.func50.trans (congrArg some (by kernel_rfl))
  f224 := Tryd.func109.trans (congrArg some (by kernel_rfl))
  f225 := Tryd.func108.trans (congrArg some (by kernel_rfl))
  f260 := Tryd.func99.trans (congrArg some (by kernel_rfl))
  f266 := Tryd.func93.trans (congrArg some (by kernel_rfl))
  f267 := Tryd.func110.trans (congrArg some (by kernel_rfl))
  f268 := Tryd.func70.trans (congrArg some (by kernel_rfl))
  f314 := Tryd.func115.trans (congrArg some (by kernel_rfl))
  t0 := Tryd.underlying0
  a0 := Tryd.isAgg0
  z0 := Tryd.sizeOf0
  v0 := Tryd.zeroValue0
  t3 := Tryd.underlying3
  a3 := Tryd.isAgg3
  z3 := Tryd.sizeOf3
  v3 := Tryd.zeroValue3
  t4 := Tryd.underlying4
  a4 := Tryd.isAgg4
  z4 := Tryd.sizeOf4
  v4 := Tryd.zeroValue4
  t5 := Tryd.underlying5
  a5 := Tryd.isAgg5
  z5 := Tryd.sizeOf5
  v5 := Tryd.zeroValue5
  t9 := Tryd.underlying9
  a9 := Tryd.isAgg9
  z9 := Tryd.sizeOf9
  v9 := Tryd.zeroValue9
  t21 := Tryd.underlying21
  a21 := Tryd.isAgg21
  z21 := Tryd.sizeOf21
  v21 := Tryd.zeroValue21
  t31 := Tryd.underlying39
  a31 := Tryd.isAgg39
  z31 := Tryd.sizeOf39
  v31 := Tryd.zeroValue39
  t46 := Tryd.underlying36
  a46 := Tryd.isAgg36
  z46 := Tryd.sizeOf36
  v46 := Tryd.zeroValue36
  t51 := Tryd.underlying131
  a51 := Tryd.isAgg131
  z51 := Tryd.sizeOf131
  v51 := Tryd.zeroValue131
  t105 := Tryd.underlying106
  a105 := Tryd.isAgg106
  z105 := Tryd.sizeOf106
  v105 := Tryd.zeroValue106
  t119 := Tryd.underlying125
  a119 := Tryd.isAgg125
  z119 := Tryd.sizeOf125
  t138 := Tryd.underlying127
  a138 := Tryd.isAgg127
  z138 := Tryd.sizeOf127
  v138 := Tryd.zeroValue127
  t139 := Tryd.underlying128
  a139 := Tryd.isAgg128
  z139 := Tryd.sizeOf128
  v139 := Tryd.zeroValue128
  t146 := Tryd.underlying132
  a146 := Tryd.isAgg132
  z146 := Tryd.sizeOf132
  v146 := Tryd.zeroValue132
  g1 := by kernel_rfl
  g3 := by kernel_rfl
  g4 := by kernel_rfl }
open Go.RowKit Go.Lib in
theorem Tryd.strings_genSplit (s sep : ByteArray) (sv : Nat) (n : Int) (N : Nat) (m : Int) (w : World) (hs : s.size < 4294967281) (hm : w.cell? ⟨0, 0, none⟩ = some (.int .i64 m)) (h1 : 1 ≤ sep.size) (hsv : sv ≤ sep.size) (hn0 : n ≠ 0) (hn63 : n ≤ 9223372036854775807) (hN : (N : Int) = min (if n < 0 then (Lib.countB s sep : Int) + 1 else n) ((s.size : Int) + 1)) :
    Calls Tryd.prog 50 #[.string s, .string sep, .int .i64 sv, .int .i64 n] w fun e w' =>
      e = .returned (.slice (some ⟨w.heap.size, 0, none⟩) (Lib.splitB sep sv (N - 1) s).length N) ∧ w' = w.alloc (.cells (Lib.cellsOf (Lib.splitB sep sv (N - 1) s) N) 9) := Any.strings_genSplit Tryd.lays221 (by kernel_rfl) s sep sv n N m w hs hm h1 hsv hn0 hn63 hN
def Tryd.lays146_ren : Go.Shelf.Ren := ⟨fun | 146 => 35 | 221 => 50 | 268 => 70 | 138 => 71 | 143 => 72 | 195 => 90 | 197 => 80 | 218 => 91 | 219 => 92 | 260 => 99 | 217 => 73 | 225 => 108 | 224 => 109 | 267 => 110 | 266 => 93 | 314 => 115 | n => n, fun | 9 => 9 | 31 => 39 | 3 => 3 | 4 => 4 | 0 => 0 | 105 => 106 | 21 => 21 | 5 => 5 | 46 => 36 | 119 => 125 | 139 => 128 | 138 => 127 | 146 => 132 | 51 => 131 | n => n, fun | 1 => 0 | 3 => 1 | 4 => 2 | n => n⟩
theorem Tryd.lays146 : Go.Proofs.Lays.n146 Tryd.prog Tryd.lays146_ren := {
  mixed := by kernel_rfl
  f138 := Tryd.func71.trans (congrArg some (by kernel_rfl))
  f143 := Tryd.func72.trans (congrArg some (by kernel_rfl))
  f146 := Tryd.func35.trans (congrArg some (by kernel_rfl))
  f195 := Tryd.func90.trans (congrArg some (by kernel_rfl))
  f197 := Tryd.func80.trans (congrArg some (by kernel_rfl))
  f217 := Tryd.func73.trans (congrArg some (by kernel_rfl))
  f218 := Tryd.func91.trans (congrArg some (by kernel_rfl))
  f219 := Tryd.func92.trans (congrArg some (by kernel_rfl))
  f221 := Tryd.func50.trans (congrArg some (by kernel_rfl))
  f224 := Tryd.func109.trans (congrArg some (by kernel_rfl))
  f225 := Tryd.func108.trans (congrArg some (by kernel_rfl))
  f260 := Tryd.func99.trans (congrArg some (by kernel_rfl))
  f266 := Tryd.func93.trans (congrArg some (by kernel_rfl))
  f267 := Tryd.func110.trans (congrArg some (by kernel_rfl))
  f268 := Tryd.func70.trans (congrArg some (by kernel_rfl))
  f314 := Tryd.func115.trans (congrArg some (by kernel_rfl))
  t0 := Tryd.underlying0
  a0 := Tryd.isAgg0
  z0 := Tryd.sizeOf0
  v0 := Tryd.zeroValue0
  t3 := Tryd.underlying3
  a3 := Tryd.isAgg3
  z3 := Tryd.sizeOf3
  v3 := Tryd.zeroValue3
  t4 := Tryd.underlying4
  a4 := Tryd.isAgg4
  z4 := Tryd.sizeOf4
  v4 := Tryd.zeroValue4
  t5 := Tryd.underlying5
  a5 := Tryd.isAgg5
  z5 := Tryd.sizeOf5
  v5 := Tryd.zeroValue5
  t9 := Tryd.underlying9
  a9 := Tryd.isAgg9
  z9 := Tryd.sizeOf9
  v9 := Tryd.zeroValue9
  t21 := Tryd.underlying21
  a21 := Tryd.isAgg21
  z21 := Tryd.sizeOf21
  v21 := Tryd.zeroValue21
  t31 := Tryd.underlying39
  a31 := Tryd.isAgg39
  z31 := Tryd.sizeOf39
  v31 := Tryd.zeroValue39
  t46 := Tryd.underlying36
  a46 := Tryd.isAgg36
  z46 := Tryd.sizeOf36
  v46 := Tryd.zeroValue36
  t51 := Tryd.underlying131
  a51 := Tryd.isAgg131
  z51 := Tryd.sizeOf131
  v51 := Tryd.zeroValue131
  t105 := Tryd.underlying106
  a105 := Tryd.isAgg106
  z105 := Tryd.sizeOf106
  v105 := Tryd.zeroValue106
  t119 := Tryd.underlying125
  a119 := Tryd.isAgg125
  z119 := Tryd.sizeOf125
  t138 := Tryd.underlying127
  a138 := Tryd.isAgg127
  z138 := Tryd.sizeOf127
  v138 := Tryd.zeroValue127
  t139 := Tryd.underlying128
  a139 := Tryd.isAgg128
  z139 := Tryd.sizeOf128
  v139 := Tryd.zeroValue128
  t146 := Tryd.underlying132
  a146 := Tryd.isAgg132
  z146 := Tryd.sizeOf132
  v146 := Tryd.zeroValue132
  g1 := by kernel_rfl
  g3 := by kernel_rfl
  g4 := by kernel_rfl }
open Go.RowKit Go.Lib in
theorem Tryd.strings_Split (s sep : ByteArray) (m : Int) (w : World) (hs : s.size < 4294967281) (hm : w.cell? ⟨0, 0, none⟩ = some (.int .i64 m)) (h1 : 1 ≤ sep.size) :
    Calls Tryd.prog 35 #[.string s, .string sep] w fun e w' =>
      e = .returned (.slice (some ⟨w.heap.size, 0, none⟩) (Lib.countB s sep + 1) (Lib.countB s sep + 1)) ∧ w' = w.alloc (.cells ((Lib.splitB sep 0 (Lib.countB s sep) s).map Value.string).toArray 9) := Any.strings_Split Tryd.lays146 (by kernel_rfl) s sep m w hs hm h1
def Tryd.lays147_ren : Go.Shelf.Ren := ⟨fun | 147 => 34 | 221 => 50 | 268 => 70 | 138 => 71 | 143 => 72 | 195 => 90 | 197 => 80 | 218 => 91 | 219 => 92 | 260 => 99 | 217 => 73 | 225 => 108 | 224 => 109 | 267 => 110 | 266 => 93 | 314 => 115 | n => n, fun | 9 => 9 | 3 => 3 | 31 => 39 | 4 => 4 | 0 => 0 | 105 => 106 | 21 => 21 | 5 => 5 | 46 => 36 | 119 => 125 | 139 => 128 | 138 => 127 | 146 => 132 | 51 => 131 | n => n, fun | 1 => 0 | 3 => 1 | 4 => 2 | n => n⟩
theorem Tryd.lays147 : Go.Proofs.Lays.n147 Tryd.prog Tryd.lays147_ren := {
  mixed := by kernel_rfl
  f138 := Tryd.func71.trans (congrArg some (by kernel_rfl))
  f143 := Tryd.func72.trans (congrArg some (by kernel_rfl))
  f147 := Tryd.func34.trans (congrArg some (by kernel_rfl))
  f195 := Tryd.func90.trans (congrArg some (by kernel_rfl))
  f197 := Tryd.func80.trans (congrArg some (by kernel_rfl))
  f217 := Tryd.func73.trans (congrArg some (by kernel_rfl))
  f218 := Tryd.func91.trans (congrArg some (by kernel_rfl))
  f219 := Tryd.func92.trans (congrArg some (by kernel_rfl))
  f221 := Tryd.func50.trans (congrArg some (by kernel_rfl))
  f224 := Tryd.func109.trans (congrArg some (by kernel_rfl))
  f225 := Tryd.func108.trans (congrArg some (by kernel_rfl))
  f260 := Tryd.func99.trans (congrArg some (by kernel_rfl))
  f266 := Tryd.func93.trans (congrArg some (by kernel_rfl))
  f267 := Tryd.func110.trans (congrArg some (by kernel_rfl))
  f268 := Tryd.func70.trans (congrArg some (by kernel_rfl))
  f314 := Tryd.func115.trans (congrArg some (by kernel_rfl))
  t0 := Tryd.underlying0
  a0 := Tryd.isAgg0
  z0 := Tryd.sizeOf0
  v0 := Tryd.zeroValue0
  t3 := Tryd.underlying3
  a3 := Tryd.isAgg3
  z3 := Tryd.sizeOf3
  v3 := Tryd.zeroValue3
  t4 := Tryd.underlying4
  a4 := Tryd.isAgg4
  z4 := Tryd.sizeOf4
  v4 := Tryd.zeroValue4
  t5 := Tryd.underlying5
  a5 := Tryd.isAgg5
  z5 := Tryd.sizeOf5
  v5 := Tryd.zeroValue5
  t9 := Tryd.underlying9
  a9 := Tryd.isAgg9
  z9 := Tryd.sizeOf9
  v9 := Tryd.zeroValue9
  t21 := Tryd.underlying21
  a21 := Tryd.isAgg21
  z21 := Tryd.sizeOf21
  v21 := Tryd.zeroValue21
  t31 := Tryd.underlying39
  a31 := Tryd.isAgg39
  z31 := Tryd.sizeOf39
  v31 := Tryd.zeroValue39
  t46 := Tryd.underlying36
  a46 := Tryd.isAgg36
  z46 := Tryd.sizeOf36
  v46 := Tryd.zeroValue36
  t51 := Tryd.underlying131
  a51 := Tryd.isAgg131
  z51 := Tryd.sizeOf131
  v51 := Tryd.zeroValue131
  t105 := Tryd.underlying106
  a105 := Tryd.isAgg106
  z105 := Tryd.sizeOf106
  v105 := Tryd.zeroValue106
  t119 := Tryd.underlying125
  a119 := Tryd.isAgg125
  z119 := Tryd.sizeOf125
  t138 := Tryd.underlying127
  a138 := Tryd.isAgg127
  z138 := Tryd.sizeOf127
  v138 := Tryd.zeroValue127
  t139 := Tryd.underlying128
  a139 := Tryd.isAgg128
  z139 := Tryd.sizeOf128
  v139 := Tryd.zeroValue128
  t146 := Tryd.underlying132
  a146 := Tryd.isAgg132
  z146 := Tryd.sizeOf132
  v146 := Tryd.zeroValue132
  g1 := by kernel_rfl
  g3 := by kernel_rfl
  g4 := by kernel_rfl }
open Go.RowKit Go.Lib in
theorem Tryd.strings_SplitN (s sep : ByteArray) (n : Nat) (m : Int) (w : World) (hs : s.size < 4294967281) (hm : w.cell? ⟨0, 0, none⟩ = some (.int .i64 m)) (h1 : 1 ≤ sep.size) (hn : 1 ≤ n) (hn63 : n ≤ 9223372036854775807) :
    Calls Tryd.prog 34 #[.string s, .string sep, .int .i64 n] w fun e w' =>
      e = .returned (.slice (some ⟨w.heap.size, 0, none⟩) (Lib.splitB sep 0 (min n (s.size + 1) - 1) s).length (min n (s.size + 1))) ∧ w' = w.alloc (.cells (Lib.cellsOf (Lib.splitB sep 0 (min n (s.size + 1) - 1) s) (min n (s.size + 1))) 9) := Any.strings_SplitN Tryd.lays147 (by kernel_rfl) s sep n m w hs hm h1 hn hn63
end Go.Proofs
end
section
set_option linter.unusedVariables false
set_option linter.unusedSimpArgs false
namespace Go.Gp
open Go.Vd Go.RowKit Go.Proofs
theorem sat_strings_IndexByte (N : Nat) (s : List UInt8) (c : UInt8) (r : Int) (h : strings_IndexByte N s c = some r) : Sat Tryd.prog 51 noRows [.str s, eb c] (.int .i64 r) noRows := by
  cases h
  refine sat_lib1 (vs := [.string ⟨s.toArray⟩, .int .u8 (c.toNat : Int)]) rfl rfl fun w => ?_
  have h := Tryd.strings_IndexByte ⟨s.toArray⟩ (c.toNat : Int) w
  have e : ((c.toNat : Int)).toNat.toUInt8 = c := by simp
  rw [e] at h
  exact h
theorem sat_stringslite_Index (N : Nat) (s p : List UInt8) (r : Int) (h : stringslite_Index N s p = some r) : Sat Tryd.prog 92 noRows [.str s, .str p] (.int .i64 r) noRows := by
  obtain ⟨c, rfl, rfl⟩ := stringslite_Index_inv h
  exact sat_lib1 (vs := [.string ⟨s.toArray⟩, .string ⟨#[c]⟩]) rfl rfl fun w => Tryd.stringslite_Index_one ⟨s.toArray⟩ c w
theorem sat_strings_Join (N : Nat) (xs : List (List UInt8)) (sep r : List UInt8) (h : strings_Join N xs sep = some r) : Sat Tryd.prog 40 noRows [.sl 1 (List.map PV.str xs), .str sep] (.str r) noRows :=
  sat_join (fun a c sep w => Tryd.strings_Join_none a c sep w) (fun bk o c xs sep w h1 h2 h3 h4 h5 => Tryd.strings_Join bk o c xs sep w h1 h2 h3 h4 h5) h
theorem sat_strings_Count (N : Nat) (s p : List UInt8) (r : Int) (h : strings_Count N s p = some r) : Sat Tryd.prog 71 noRows [.str s, .str p] (.int .i64 r) noRows := by
  obtain ⟨c, rfl, rfl⟩ := strings_Count_inv h
  exact sat_lib1 (vs := [.string ⟨s.toArray⟩, .string ⟨#[c]⟩]) rfl rfl fun w => Tryd.strings_Count_one ⟨s.toArray⟩ c w
end Go.Gp
end
section
set_option linter.unusedVariables false
set_option linter.unusedSimpArgs false
set_option maxRecDepth 4000
namespace Go.Gp
open Go.Vd Go.RowKit Go.Proofs
def k72 : IC := (.seq (.reg [⟨(some 4), (.mov (.c (.int .i64 0))), none⟩]) (.seq (.reg [⟨(some 5), (.mov (.t 0)), none⟩, ⟨(some 6), (.mov (.t 1)), none⟩, ⟨(some 7), (.call 92 [(.t 5), (.t 6)]), none⟩, ⟨(some 4), (.mov (.t 7)), none⟩]) .ret))
theorem k72_cf : cfunc Tryd.prog Tryd.f72 = some ⟨8, k72, [(.tmp 4)]⟩ := by kernel_rfl
theorem sat_strings_Index (N : Nat) (a0 : List UInt8) (a1 : List UInt8) (r : Int) (h : strings_Index N a0 a1 = some r) : Sat Tryd.prog 72 noRows [.str a0, .str a1] (.int .i64 r) noRows := by
  refine xsat mixed Tryd.func72 k72_cf (rs := [.int .i64 r]) rfl rfl ?_
  refine xseq ?_
  refine xreg ?_
  refine wpp rfl rfl ?_
  refine xseq ?_
  refine xreg ?_
  refine wpp rfl rfl ?_
  refine wpp rfl rfl ?_
  obtain ⟨x7, hx7, h⟩ := bindS h
  refine woo rfl (ocal (sat_stringslite_Index N _ _ _ hx7) rfl (.cons sub_rfl (.cons sub_rfl .nil)) rfl rfl rfl) ?_
  refine wpp rfl rfl ?_
  obtain rfl := someS h
  refine xret ?_
  exact ⟨nofun, rfl, rfl⟩
end Go.Gp
end
section
set_option linter.unusedVariables false
set_option linter.unusedSimpArgs false
set_option maxRecDepth 4000
namespace Go.Gp
open Go.Vd Go.RowKit Go.Proofs
def k50_l34 : IC := (.seq (.seq (.reg [⟨(some 34), (.mov (.t 10)), none⟩, ⟨(some 35), (.mov (.t 3)), none⟩, ⟨(some 36), (.bin .lss (.t 34) (.t 35)), none⟩]) (.cond (.t 36) .skip (.exit 0))) (.block 1 (.seq (.reg [⟨(some 37), (.mov (.t 0)), none⟩, ⟨(some 38), (.mov (.t 1)), none⟩, ⟨(some 39), (.call 72 [(.t 37), (.t 38)]), none⟩, ⟨(some 11), (.mov (.t 39)), none⟩]) (.seq (.seq (.reg [⟨(some 40), (.mov (.t 11)), none⟩, ⟨(some 41), (.bin .lss (.t 40) (.c (.int .i64 0))), none⟩]) (.cond (.t 41) (.exit 0) .skip)) (.seq (.reg [⟨(some 42), (.mov (.t 9)), none⟩, ⟨(some 43), (.mov (.t 10)), none⟩, ⟨(some 44), (.mov (.t 0)), none⟩, ⟨(some 45), (.mov (.t 11)), none⟩, ⟨(some 46), (.mov (.t 2)), none⟩, ⟨(some 47), (.bin .add (.t 45) (.t 46)), none⟩, ⟨(some 48), (.slcs (.t 44) none (some (.t 47))), none⟩, ⟨(some 49), (.ixp 1 (.t 42) (.t 43)), none⟩, ⟨none, (.store 1 (.t 49) (.t 48)), none⟩]) (.seq (.reg [⟨(some 50), (.mov (.t 0)), none⟩, ⟨(some 51), (.mov (.t 11)), none⟩, ⟨(some 52), (.mov (.t 1)), none⟩, ⟨(some 53), (.len true (.t 52)), none⟩, ⟨(some 54), (.bin .add (.t 51) (.t 53)), none⟩, ⟨(some 55), (.slcs (.t 50) (some (.t 54)) none), none⟩, ⟨(some 0), (.mov (.t 55)), none⟩]) (.reg [⟨(some 56), (.mov (.t 10)), none⟩, ⟨(some 57), (.bin .add (.t 56) (.c (.int .i64 1))), none⟩, ⟨(some 10), (.mov (.t 57)), none⟩])))))))
def k50 : IC := (.seq (.reg [⟨(some 8), (.mov (.c .nl)), none⟩]) (.seq (.seq (.reg [⟨(some 12), (.mov (.t 3)), none⟩, ⟨(some 13), (.bin .eql (.t 12) (.c (.int .i64 0))), none⟩]) (.cond (.t 13) (.seq (.reg [⟨(some 8), (.mov (.c .nl)), none⟩]) .ret) .skip)) (.seq (.seq (.reg [⟨(some 14), (.mov (.t 1)), none⟩, ⟨(some 15), (.bin .eql (.t 14) (.c (.str []))), none⟩]) (.cond (.t 15) (.seq (.reg [⟨(some 16), (.mov (.t 0)), none⟩, ⟨(some 17), (.mov (.t 3)), none⟩, ⟨(some 18), (.call 70 [(.t 16), (.t 17)]), none⟩, ⟨(some 8), (.mov (.t 18)), none⟩]) .ret) .skip)) (.seq (.seq (.reg [⟨(some 19), (.mov (.t 3)), none⟩, ⟨(some 20), (.bin .lss (.t 19) (.c (.int .i64 0))), none⟩]) (.cond (.t 20) (.reg [⟨(some 21), (.mov (.t 0)), none⟩, ⟨(some 22), (.mov (.t 1)), none⟩, ⟨(some 23), (.call 71 [(.t 21), (.t 22)]), none⟩, ⟨(some 24), (.bin .add (.t 23) (.c (.int .i64 1))), none⟩, ⟨(some 3), (.mov (.t 24)), none⟩]) .skip)) (.seq (.reg [⟨(some 25), (.mov (.t 3)), none⟩, ⟨(some 26), (.mov (.t 0)), none⟩, ⟨(some 27), (.len true (.t 26)), none⟩, ⟨(some 28), (.bin .add (.t 27) (.c (.int .i64 1))), none⟩, ⟨(some 29), (.mm false (.t 25) [(.t 28)]), none⟩, ⟨(some 3), (.mov (.t 29)), none⟩]) (.seq (.reg [⟨(some 30), (.mov (.t 3)), none⟩, ⟨(some 31), (.mks 1 16 (.str []) (.t 30)), none⟩, ⟨(some 9), (.mov (.t 31)), none⟩]) (.seq (.reg [⟨(some 32), (.mov (.t 3)), none⟩, ⟨(some 33), (.bin .sub (.t 32) (.c (.int .i64 1))), none⟩, ⟨(some 3), (.mov (.t 33)), none⟩]) (.seq (.reg [⟨(some 10), (.mov (.c (.int .i64 0))), none⟩]) (.seq (.block 0 (.loop k50_l34)) (.seq (.reg [⟨(some 58), (.mov (.t 9)), none⟩, ⟨(some 59), (.mov (.t 10)), none⟩, ⟨(some 60), (.mov (.t 0)), none⟩, ⟨(some 61), (.ixp 1 (.t 58) (.t 59)), none⟩, ⟨none, (.store 1 (.t 61) (.t 60)), none⟩]) (.seq (.reg [⟨(some 62), (.mov (.t 9)), none⟩, ⟨(some 63), (.mov (.t 10)), none⟩, ⟨(some 64), (.bin .add (.t 63) (.c (.int .i64 1))), none⟩, ⟨(some 65), (.slcl 1 (.t 62) none (some (.t 64))), none⟩, ⟨(some 8), (.mov (.t 65)), none⟩]) .ret)))))))))))
theorem k50_cf : cfunc Tryd.prog Tryd.f50 = some ⟨66, k50, [(.tmp 8)]⟩ := by kernel_rfl
theorem w_strings_genSplit_l34 (N : Nat) (a0 : List UInt8) (a1 : List UInt8) (a2 : Int) (v3j18 : Int) : ∀ (n : Nat) (x : List UInt8 × Int × List (List UInt8)) (y : List UInt8 × Int × List (List UInt8)), strings_genSplit_l34 N a0 a1 a2 v3j18 n x = some y → WX Tryd.prog (fun _ => false) (.loop k50_l34) ((fun (x : List UInt8 × Int × List (List UInt8)) => ⟨ofL [(0, .str x.1), (1, .str a1), (2, .int .i64 a2), (3, .int .i64 (w64 ((mn v3j18 (w64 ((a0.length : Int) + (1 : Int)))) - (1 : Int)))), (9, .slr 31 0 x.2.2.length), (10, .int .i64 x.2.1)], ofL [(31, ⟨1, true, List.map PV.str x.2.2⟩)]⟩) x) ((fun y e s => e = .exit 0 ∧ s = ⟨ofL [(0, .str y.1), (9, .slr 31 0 y.2.2.length), (10, .int .i64 y.2.1)], ofL [(31, ⟨1, true, List.map PV.str y.2.2⟩)]⟩ : (List UInt8 × Int × List (List UInt8)) → Xt → St → Prop) y) := by
  refine xloop (fun (x : List UInt8 × Int × List (List UInt8)) => ⟨ofL [(0, .str x.1), (1, .str a1), (2, .int .i64 a2), (3, .int .i64 (w64 ((mn v3j18 (w64 ((a0.length : Int) + (1 : Int)))) - (1 : Int)))), (9, .slr 31 0 x.2.2.length), (10, .int .i64 x.2.1)], ofL [(31, ⟨1, true, List.map PV.str x.2.2⟩)]⟩) _ (strings_genSplit_l34 N a0 a1 a2 v3j18) (strings_genSplit_l34_b N a0 a1 a2 v3j18) (fun _ => rfl) (fun _ _ => rfl) ?_
  rintro rec ⟨v0l34, v10l34, r31l34⟩ y h
  refine xseq ?_
  refine xseq ?_
  refine xreg ?_
  refine wpp rfl rfl ?_
  refine wpp rfl rfl ?_
  refine wpp rfl rfl ?_
  rcases bifS h with ⟨c3, h⟩ | ⟨c3, h⟩
  · refine xcT rfl c3 ?_
    refine xskip ?_
    refine xblk ?_
    refine xseq ?_
    refine xreg ?_
    refine wpp rfl rfl ?_
    refine wpp rfl rfl ?_
    obtain ⟨x39, hx39, h⟩ := bindS h
    refine woo rfl (ocal (sat_strings_Index N _ _ _ hx39) rfl (.cons sub_rfl (.cons sub_rfl .nil)) rfl rfl rfl) ?_
    refine wpp rfl rfl ?_
    refine xseq ?_
    refine xseq ?_
    refine xreg ?_
    refine wpp rfl rfl ?_
    refine wpp rfl rfl ?_
    rcases bifS h with ⟨c4, h⟩ | ⟨c4, h⟩
    · refine xcT rfl c4 ?_
      obtain rfl := someS h
      exact xexitn (st1 := ⟨ofL [(0, .str v0l34), (9, .slr 31 0 r31l34.length), (10, .int .i64 v10l34)], ofL [(31, ⟨1, true, List.map PV.str r31l34⟩)]⟩) (canon0 ⟨rfl, rfl, rfl, trivial⟩ ⟨rfl, trivial⟩ rfl rfl) ⟨rfl, rfl⟩
    · refine xcF rfl c4 ?_
      refine xskip ?_
      refine xseq ?_
      refine xreg ?_
      refine wpp rfl rfl ?_
      refine wpp rfl rfl ?_
      refine wpp rfl rfl ?_
      refine wpp rfl rfl ?_
      refine wpp rfl rfl ?_
      refine wpp (p := .int .i64 (w64 (x39 + a2))) rfl rfl ?_
      obtain ⟨x48, hx48, h⟩ := bindS h
      refine wpp rfl (p_take hx48 rfl rfl) ?_
      obtain ⟨x49, hx49, h⟩ := bindS h
      refine wpp rfl (p_ixr hx49 rfl rfl rfl rfl) ?_
      obtain ⟨x9004, hx9004, h⟩ := bindS h
      refine wsto (f := PV.str) (e' := x48) hx9004 rfl rfl rfl rfl rfl rfl rfl rfl (fun _ => rfl) rfl ?_
      refine xseq ?_
      refine xreg ?_
      refine wpp rfl rfl ?_
      refine wpp rfl rfl ?_
      refine wpp rfl rfl ?_
      refine wpp rfl rfl ?_
      refine wpp (p := .int .i64 (w64 (x39 + (a1.length : Int)))) rfl rfl ?_
      obtain ⟨x55, hx55, h⟩ := bindS h
      refine wpp rfl (p_drop hx55 rfl rfl) ?_
      refine wpp rfl rfl ?_
      refine xreg ?_
      refine wpp rfl rfl ?_
      refine wpp (p := .int .i64 (w64 (v10l34 + (1 : Int)))) rfl rfl ?_
      refine wpp rfl rfl ?_
      exact ⟨(x55, (w64 (v10l34 + (1 : Int))), (r31l34.set x49 x48)), (Norm.trans (nsub 9 (sub_eq (congrArg (PV.slr 31 0) (by simp only [List.length_set, List.length_replicate] : r31l34.length = (r31l34.set x49 x48).length))) rfl) (canon0 ⟨rfl, rfl, rfl, rfl, rfl, rfl, trivial⟩ ⟨rfl, trivial⟩ rfl rfl)), h⟩
  · refine xcF rfl c3 ?_
    obtain rfl := someS h
    exact xexitn (st1 := ⟨ofL [(0, .str v0l34), (9, .slr 31 0 r31l34.length), (10, .int .i64 v10l34)], ofL [(31, ⟨1, true, List.map PV.str r31l34⟩)]⟩) (canon0 ⟨rfl, rfl, rfl, trivial⟩ ⟨rfl, trivial⟩ rfl rfl) ⟨rfl, rfl⟩
theorem sat_strings_genSplit (N : Nat) (a0 : List UInt8) (a1 : List UInt8) (a2 : Int) (a3 : Int) (r : List (List UInt8)) (h : strings_genSplit N a0 a1 a2 a3 = some r) : Sat Tryd.prog 50 noRows [.str a0, .str a1, .int .i64 a2, .int .i64 a3] (.sl 1 (List.map PV.str r)) noRows := by
  refine xsat mixed Tryd.func50 k50_cf (rs := [.sl 1 (List.map PV.str r)]) rfl rfl ?_
  refine xseq ?_
  refine xreg ?_
  refine wpp rfl rfl ?_
  refine xseq ?_
  refine xseq ?_
  refine xreg ?_
  refine wpp rfl rfl ?_
  refine wpp rfl rfl ?_
  rcases bifS h with ⟨c1, h⟩ | ⟨c1, h⟩
  · refine xcT rfl c1 ?_
    refine xseq ?_
    refine xreg ?_
    refine wpp rfl rfl ?_
    obtain rfl := someS h
    refine xretn (st1 := ⟨ofL [(8, .sl 1 (List.map PV.str []))], ofL []⟩) (Norm.trans (nsub 8 (sub_nl 1) rfl) (canon0 ⟨rfl, trivial⟩ trivial rfl rfl)) ?_
    exact ⟨nofun, rfl, rfl⟩
  · refine xcF rfl c1 ?_
    refine xskip ?_
    refine xseq ?_
    refine xseq ?_
    refine xreg ?_
    refine wpp rfl rfl ?_
    refine wpp rfl rfl ?_
    rcases bifS h with ⟨c2, h⟩ | ⟨c2, h⟩
    · refine xcT rfl c2 ?_
      refine xseq ?_
      refine xreg ?_
      refine wpp rfl rfl ?_
      refine wpp rfl rfl ?_
      obtain ⟨x18, hx18, h⟩ := bindS h
      refine woo rfl (ocal (sat_strings_explode N _ _ _ hx18) rfl (.cons sub_rfl (.cons sub_rfl .nil)) rfl rfl rfl) ?_
      refine wpp rfl rfl ?_
      obtain rfl := someS h
      refine xret ?_
      exact ⟨nofun, rfl, rfl⟩
    · refine xcF rfl c2 ?_
      refine xskip ?_
      refine xjoin (fun (x : Int) => ⟨ofL [(0, .str a0), (1, .str a1), (2, .int .i64 a2), (3, .int .i64 x)], ofL []⟩) (fun x => strings_genSplit_j18 a0 a1 a2 N x = some r) ?_ ?_
      · rintro v3j18 h
        refine xseq ?_
        refine xreg ?_
        refine wpp rfl rfl ?_
        refine wpp rfl rfl ?_
        refine wpp rfl rfl ?_
        refine wpp (p := .int .i64 (w64 ((a0.length : Int) + (1 : Int)))) rfl rfl ?_
        refine wpp (p := .int .i64 (mn v3j18 (w64 ((a0.length : Int) + (1 : Int))))) rfl rfl ?_
        refine wpp rfl rfl ?_
        refine xseq ?_
        refine xreg ?_
        refine wpp rfl rfl ?_
        obtain ⟨x31, hx31, h⟩ := bindS h
        refine wmks (f := PV.str) (e := ([] : List UInt8)) 31 hx31 rfl rfl rfl rfl rfl rfl ?_
        refine wpp rfl rfl ?_
        refine xseq ?_
        refine xreg ?_
        refine wpp rfl rfl ?_
        refine wpp (p := .int .i64 (w64 ((mn v3j18 (w64 ((a0.length : Int) + (1 : Int)))) - (1 : Int)))) rfl rfl ?_
        refine wpp rfl rfl ?_
        refine xseq ?_
        refine xreg ?_
        refine wpp rfl rfl ?_
        refine xseq ?_
        refine xblk ?_
        obtain ⟨y6, hy6, h⟩ := bindS h
        refine xloopU (st1 := ⟨ofL [(0, .str a0), (1, .str a1), (2, .int .i64 a2), (3, .int .i64 (w64 ((mn v3j18 (w64 ((a0.length : Int) + (1 : Int)))) - (1 : Int)))), (9, .slr 31 0 ((List.replicate x31 ([] : List UInt8)).length)), (10, .int .i64 0)], ofL [(31, ⟨1, true, List.map PV.str (List.replicate x31 ([] : List UInt8))⟩)]⟩) (Norm.trans (nsub 9 (sub_eq (congrArg (PV.slr 31 0) (by simp only [List.length_set, List.length_replicate] : x31 = (List.replicate x31 ([] : List UInt8)).length))) rfl) (canon0 ⟨rfl, rfl, rfl, rfl, rfl, rfl, trivial⟩ ⟨rfl, trivial⟩ rfl rfl)) (w_strings_genSplit_l34 N a0 a1 a2 v3j18 N _ _ hy6) ?_
        rintro e s ⟨rfl, rfl⟩
        refine xseq ?_
        refine xreg ?_
        refine wpp rfl rfl ?_
        refine wpp rfl rfl ?_
        refine wpp rfl rfl ?_
        obtain ⟨x61, hx61, h⟩ := bindS h
        refine wpp rfl (p_ixr hx61 rfl rfl rfl rfl) ?_
        obtain ⟨x9006, hx9006, h⟩ := bindS h
        refine wsto (f := PV.str) (e' := y6.1) hx9006 rfl rfl rfl rfl rfl rfl rfl rfl (fun _ => rfl) rfl ?_
        refine xseq ?_
        refine xreg ?_
        refine wpp rfl rfl ?_
        refine wpp rfl rfl ?_
        refine wpp (p := .int .i64 (w64 (y6.2.1 + (1 : Int)))) rfl rfl ?_
        obtain ⟨x65, hx65, h⟩ := bindS h
        refine wpp rfl (p_taker hx65 rfl (by simp only [List.length_set, List.length_replicate]) rfl rfl rfl) ?_
        refine wpp rfl rfl ?_
        obtain rfl := someS h
        refine xretn (st1 := ⟨ofL [(8, .sl 1 (List.map PV.str x65))], ofL []⟩) (Norm.trans (Vd.freeze 31 _ rfl rfl rfl) (Norm.trans (nsub 8 (sub_eq (congrArg (PV.sl 1) (take_row hx65))) rfl) (canon0 ⟨rfl, trivial⟩ trivial rfl rfl))) ?_
        exact ⟨nofun, rfl, rfl⟩
      · skip
        refine xseq ?_
        refine xreg ?_
        refine wpp rfl rfl ?_
        refine wpp rfl rfl ?_
        rcases bifS h with ⟨c8, h⟩ | ⟨c8, h⟩
        · refine xcT rfl c8 ?_
          refine xreg ?_
          refine wpp rfl rfl ?_
          refine wpp rfl rfl ?_
          obtain ⟨x23, hx23, h⟩ := bindS h
          refine woo rfl (ocal (sat_strings_Count N _ _ _ hx23) rfl (.cons sub_rfl (.cons sub_rfl .nil)) rfl rfl rfl) ?_
          refine wpp (p := .int .i64 (w64 (x23 + (1 : Int)))) rfl rfl ?_
          refine wpp rfl rfl ?_
          exact ⟨(w64 (x23 + (1 : Int))), (canon0 ⟨rfl, rfl, rfl, rfl, trivial⟩ trivial rfl rfl), h⟩
        · refine xcF rfl c8 ?_
          refine xskip ?_
          exact ⟨a3, (canon0 ⟨rfl, rfl, rfl, rfl, trivial⟩ trivial rfl rfl), h⟩
end Go.Gp
end
section
set_option linter.unusedVariables false
set_option linter.unusedSimpArgs false
set_option maxRecDepth 4000
namespace Go.Gp
open Go.Vd Go.RowKit Go.Proofs
def k34 : IC := (.seq (.reg [⟨(some 6), (.mov (.c .nl)), none⟩]) (.seq (.reg [⟨(some 7), (.mov (.t 0)), none⟩, ⟨(some 8), (.mov (.t 1)), none⟩, ⟨(some 9), (.mov (.t 2)), none⟩, ⟨(some 10), (.call 50 [(.t 7), (.t 8), (.c (.int .i64 0)), (.t 9)]), none⟩, ⟨(some 6), (.mov (.t 10)), none⟩]) .ret))
theorem k34_cf : cfunc Tryd.prog Tryd.f34 = some ⟨11, k34, [(.tmp 6)]⟩ := by kernel_rfl
theorem sat_strings_SplitN (N : Nat) (a0 : List UInt8) (a1 : List UInt8) (a2 : Int) (r : List (List UInt8)) (h : strings_SplitN N a0 a1 a2 = some r) : Sat Tryd.prog 34 noRows [.str a0, .str a1, .int .i64 a2] (.sl 1 (List.map PV.str r)) noRows := by
  refine xsat mixed Tryd.func34 k34_cf (rs := [.sl 1 (List.map PV.str r)]) rfl rfl ?_
  refine xseq ?_
  refine xreg ?_
  refine wpp rfl rfl ?_
  refine xseq ?_
  refine xreg ?_
  refine wpp rfl rfl ?_
  refine wpp rfl rfl ?_
  refine wpp rfl rfl ?_
  obtain ⟨x10, hx10, h⟩ := bindS h
  refine woo rfl (ocal (sat_strings_genSplit N _ _ _ _ _ hx10) rfl (.cons sub_rfl (.cons sub_rfl (.cons sub_rfl (.cons sub_rfl .nil)))) rfl rfl rfl) ?_
  refine wpp rfl rfl ?_
  obtain rfl := someS h
  refine xret ?_
  exact ⟨nofun, rfl, rfl⟩
end Go.Gp
end
section
set_option linter.unusedVariables false
set_option linter.unusedSimpArgs false
set_option maxRecDepth 4000
namespace Go.Gp
open Go.Vd Go.RowKit Go.Proofs
def k35 : IC := (.seq (.reg [⟨(some 4), (.mov (.c .nl)), none⟩]) (.seq (.reg [⟨(some 5), (.mov (.t 0)), none⟩, ⟨(some 6), (.mov (.t 1)), none⟩, ⟨(some 7), (.call 50 [(.t 5), (.t 6), (.c (.int .i64 0)), (.c (.int .i64 (-1)))]), none⟩, ⟨(some 4), (.mov (.t 7)), none⟩]) .ret))
theorem k35_cf : cfunc Tryd.prog Tryd.f35 = some ⟨8, k35, [(.tmp 4)]⟩ := by kernel_rfl
theorem sat_strings_Split (N : Nat) (a0 : List UInt8) (a1 : List UInt8) (r : List (List UInt8)) (h : strings_Split N a0 a1 = some r) : Sat Tryd.prog 35 noRows [.str a0, .str a1] (.sl 1 (List.map PV.str r)) noRows := by
  refine xsat mixed Tryd.func35 k35_cf (rs := [.sl 1 (List.map PV.str r)]) rfl rfl ?_
  refine xseq ?_
  refine xreg ?_
  refine wpp rfl rfl ?_
  refine xseq ?_
  refine xreg ?_
  refine wpp rfl rfl ?_
  refine wpp rfl rfl ?_
  obtain ⟨x7, hx7, h⟩ := bindS h
  refine woo rfl (ocal (sat_strings_genSplit N _ _ _ _ _ hx7) rfl (.cons sub_rfl (.cons sub_rfl (.cons sub_rfl (.cons sub_rfl .nil)))) rfl rfl rfl) ?_
  refine wpp rfl rfl ?_
  obtain rfl := someS h
  refine xret ?_
  exact ⟨nofun, rfl, rfl⟩
end Go.Gp
end
section
set_option linter.unusedVariables false
set_option linter.unusedSimpArgs false
set_option maxRecDepth 4000
namespace Go.Gp
open Go.Vd Go.RowKit Go.Proofs
def k28_l8 : IC := (.seq (.reg [⟨(some 11), (.bin .lss (.t 10) (.t 9)), none⟩]) (.seq (.cond (.t 11) .skip (.exit 0)) (.seq (.block 1 (.seq (.reg [⟨(some 12), (.mov (.t 10)), none⟩, ⟨(some 13), (.ixp 1 (.t 8) (.t 10)), none⟩, ⟨(some 14), (.load 1 false (.t 13)), none⟩, ⟨(some 4), (.mov (.t 12)), none⟩, ⟨(some 5), (.mov (.t 14)), none⟩]) (.seq (.reg [⟨(some 15), (.mov (.t 5)), none⟩, ⟨(some 16), (.bin .geq (.t 15) (.c (.int .u8 65))), none⟩, ⟨(some 17), (.mov (.t 16)), none⟩, ⟨(some 18), (.mov (.t 5)), (some (17, true))⟩, ⟨(some 19), (.bin .leq (.t 18) (.c (.int .u8 90))), (some (17, true))⟩, ⟨(some 20), (.pick (.t 17) (.t 19) (.c (.bool false))), none⟩]) (.cond (.t 20) (.reg [⟨(some 21), (.mov (.t 3)), none⟩, ⟨(some 22), (.mov (.t 4)), none⟩, ⟨(some 23), (.mov (.t 5)), none⟩, ⟨(some 24), (.bin .add (.t 23) (.c (.int .u8 32))), none⟩, ⟨(some 25), (.ixp 1 (.t 21) (.t 22)), none⟩, ⟨none, (.store 1 (.t 25) (.t 24)), none⟩]) .skip)))) (.reg [⟨(some 26), (.bin .add (.t 10) (.c (.int .i64 1))), none⟩, ⟨(some 10), (.mov (.t 26)), none⟩]))))
def k28 : IC := (.seq (.reg [⟨(some 2), (.mov (.c (.str []))), none⟩]) (.seq (.reg [⟨(some 6), (.mov (.t 0)), none⟩, ⟨(some 7), (.cvs (.t 6)), none⟩, ⟨(some 3), (.mov (.t 7)), none⟩]) (.seq (.seq (.reg [⟨(some 8), (.mov (.t 3)), none⟩, ⟨(some 9), (.len false (.t 8)), none⟩, ⟨(some 10), (.mov (.c (.int .i64 0))), none⟩]) (.block 0 (.loop k28_l8))) (.seq (.reg [⟨(some 27), (.mov (.t 3)), none⟩, ⟨(some 28), (.cvb (.t 27)), none⟩, ⟨(some 2), (.mov (.t 28)), none⟩]) .ret))))
theorem k28_cf : cfunc Tryd.prog Tryd.f28 = some ⟨29, k28, [(.tmp 2)]⟩ := by kernel_rfl
theorem w_dn_Lower_l8 (N : Nat) (a0 : List UInt8) : ∀ (n : Nat) (x : Int × List UInt8) (y : List UInt8), dn_Lower_l8 N a0 n x = some y → WX Tryd.prog (fun _ => false) (.loop k28_l8) ((fun (x : Int × List UInt8) => ⟨ofL [(3, .slr 7 0 x.2.length), (8, .slr 7 0 x.2.length), (9, .int .i64 (a0.length : Int)), (10, .int .i64 x.1)], ofL [(7, ⟨1, true, List.map eb x.2⟩)]⟩) x) ((fun y e s => e = .exit 0 ∧ s = ⟨ofL [(3, .slr 7 0 y.length)], ofL [(7, ⟨1, true, List.map eb y⟩)]⟩ : (List UInt8) → Xt → St → Prop) y) := by
  refine xloop (fun (x : Int × List UInt8) => ⟨ofL [(3, .slr 7 0 x.2.length), (8, .slr 7 0 x.2.length), (9, .int .i64 (a0.length : Int)), (10, .int .i64 x.1)], ofL [(7, ⟨1, true, List.map eb x.2⟩)]⟩) _ (dn_Lower_l8 N a0) (dn_Lower_l8_b N a0) (fun _ => rfl) (fun _ _ => rfl) ?_
  rintro rec ⟨v10l8, r7l8⟩ y h
  refine xseq ?_
  refine xreg ?_
  refine wpp rfl rfl ?_
  refine xseq ?_
  rcases bifS h with ⟨c1, h⟩ | ⟨c1, h⟩
  · refine xcT rfl c1 ?_
    refine xskip ?_
    refine xjoin (fun (x : List UInt8) => ⟨ofL [(3, .slr 7 0 x.length), (8, .slr 7 0 x.length), (9, .int .i64 (a0.length : Int)), (10, .int .i64 v10l8)], ofL [(7, ⟨1, true, List.map eb x⟩)]⟩) (fun x => dn_Lower_j15 v10l8 rec x = some y) ?_ ?_
    · rintro r7j15 h
      refine xreg ?_
      refine wpp (p := .int .i64 (w64 (v10l8 + (1 : Int)))) rfl rfl ?_
      refine wpp rfl rfl ?_
      exact ⟨((w64 (v10l8 + (1 : Int))), r7j15), (canon0 ⟨rfl, rfl, rfl, rfl, trivial⟩ ⟨rfl, trivial⟩ rfl rfl), h⟩
    · skip
      refine xblk ?_
      refine xseq ?_
      refine xreg ?_
      refine wpp rfl rfl ?_
      obtain ⟨x13, hx13, h⟩ := bindS h
      refine wpp rfl (p_ixr hx13 rfl rfl rfl rfl) ?_
      obtain ⟨x14, hx14, h⟩ := bindS h
      refine wpp rfl (p_ldr (f := eb) (v := eb x14) hx14 rfl rfl rfl) ?_
      refine wpp rfl rfl ?_
      refine wpp rfl rfl ?_
      obtain ⟨g2, hg2, h⟩ := bindS h
      refine xseg ⟨ofL [(3, .slr 7 0 r7l8.length), (4, .int .i64 v10l8), (5, eb x14), (8, .slr 7 0 r7l8.length), (9, .int .i64 (a0.length : Int)), (10, .int .i64 v10l8), (20, .bool g2)], ofL [(7, ⟨1, true, List.map eb r7l8⟩)]⟩ ?_ ?_
      · have h := hg2
        refine xreg ?_
        refine wpp rfl rfl ?_
        refine wpp (p := .bool (decide (((x14).toNat : Int) ≥ (65 : Int)))) rfl rfl ?_
        refine wpp rfl rfl ?_
        rcases bifS h with ⟨c3, h⟩ | ⟨c3, h⟩
        · skip
          refine wpp (gy rfl c3) rfl ?_
          refine wpp (p := .bool (decide (((x14).toNat : Int) ≤ (90 : Int)))) (gy rfl c3) rfl ?_
          refine wpp rfl (p_pick1 c3 rfl rfl) ?_
          obtain rfl := someS h
          exact (canon0 ⟨rfl, rfl, rfl, rfl, rfl, rfl, rfl, trivial⟩ ⟨rfl, trivial⟩ rfl rfl)
        · skip
          refine wsk (gn rfl c3) ?_
          refine wsk (gn rfl c3) ?_
          refine wpp rfl (p_pick0 c3 rfl rfl) ?_
          obtain rfl := someS h
          exact (canon0 ⟨rfl, rfl, rfl, rfl, rfl, rfl, rfl, trivial⟩ ⟨rfl, trivial⟩ rfl rfl)
      · clear hg2
        rcases bifS h with ⟨c4, h⟩ | ⟨c4, h⟩
        · refine xcT rfl c4 ?_
          refine xreg ?_
          refine wpp rfl rfl ?_
          refine wpp rfl rfl ?_
          refine wpp rfl rfl ?_
          refine wpp rfl (p_u8add (a := x14) (b := (32 : UInt8)) rfl rfl) ?_
          obtain ⟨x25, hx25, h⟩ := bindS h
          refine wpp rfl (p_ixr hx25 rfl rfl rfl rfl) ?_
          obtain ⟨x9004, hx9004, h⟩ := bindS h
          refine wsto (f := eb) (e' := (x14 + (32 : UInt8))) hx9004 rfl rfl rfl rfl rfl rfl rfl rfl (fun _ => rfl) rfl ?_
          exact ⟨(r7l8.set x25 (x14 + (32 : UInt8))), (Norm.trans (nsub 3 (sub_eq (congrArg (PV.slr 7 0) (by simp only [List.length_set, List.length_replicate] : r7l8.length = (r7l8.set x25 (x14 + (32 : UInt8))).length))) rfl) (Norm.trans (nsub 8 (sub_eq (congrArg (PV.slr 7 0) (by simp only [List.length_set, List.length_replicate] : r7l8.length = (r7l8.set x25 (x14 + (32 : UInt8))).length))) rfl) (canon0 ⟨rfl, rfl, rfl, rfl, trivial⟩ ⟨rfl, trivial⟩ rfl rfl))), h⟩
        · refine xcF rfl c4 ?_
          refine xskip ?_
          exact ⟨r7l8, (canon0 ⟨rfl, rfl, rfl, rfl, trivial⟩ ⟨rfl, trivial⟩ rfl rfl), h⟩
  · refine xcF rfl c1 ?_
    obtain rfl := someS h
    exact xexitn (st1 := ⟨ofL [(3, .slr 7 0 r7l8.length)], ofL [(7, ⟨1, true, List.map eb r7l8⟩)]⟩) (canon0 ⟨rfl, trivial⟩ ⟨rfl, trivial⟩ rfl rfl) ⟨rfl, rfl⟩
theorem sat_dn_Lower (N : Nat) (a0 : List UInt8) (r : List UInt8) (h : dn_Lower N a0 = some r) : Sat Tryd.prog 28 noRows [.str a0] (.str r) noRows := by
  refine xsat mixed Tryd.func28 k28_cf (rs := [.str r]) rfl rfl ?_
  refine xseq ?_
  refine xreg ?_
  refine wpp rfl rfl ?_
  refine xseq ?_
  refine xreg ?_
  refine wpp rfl rfl ?_
  refine woo rfl (ocvs 7 rfl rfl) ?_
  refine wpp rfl rfl ?_
  refine xseq ?_
  refine xseq ?_
  refine xreg ?_
  refine wpp rfl rfl ?_
  refine wpp rfl rfl ?_
  refine wpp rfl rfl ?_
  refine xblk ?_
  obtain ⟨y6, hy6, h⟩ := bindS h
  refine xloopU (st1 := ⟨ofL [(3, .slr 7 0 a0.length), (8, .slr 7 0 a0.length), (9, .int .i64 (a0.length : Int)), (10, .int .i64 0)], ofL [(7, ⟨1, true, List.map eb a0⟩)]⟩) (canon0 ⟨rfl, rfl, rfl, rfl, trivial⟩ ⟨rfl, trivial⟩ rfl rfl) (w_dn_Lower_l8 N a0 N _ _ hy6) ?_
  rintro e s ⟨rfl, rfl⟩
  refine xseq ?_
  refine xreg ?_
  refine wpp rfl rfl ?_
  refine wpp rfl (p_cvbr (l := y6) rfl rfl (full_row (f := eb) (l := y6))) ?_
  refine wpp rfl rfl ?_
  obtain rfl := someS h
  refine xret ?_
  exact ⟨nofun, rfl, rfl⟩
end Go.Gp
end
section
set_option linter.unusedVariables false
set_option linter.unusedSimpArgs false
set_option maxRecDepth 4000
namespace Go.Gp
open Go.Vd Go.RowKit Go.Proofs
def k16 : IC := (.seq (.reg [⟨(some 0), (.mov (.c .nl)), none⟩]) (.seq (.reg [⟨(some 1), (.build [(.str []), (.int .i64 0), (.bool false)] [(0, (1, (.c (.str [97, 99, 105])))), (1, (1, (.c (.int .i64 2))))]), none⟩, ⟨(some 2), (.build [(.str []), (.int .i64 0), (.bool false)] [(0, (1, (.c (.str [99])))), (1, (1, (.c (.int .i64 1)))), (2, (1, (.c (.bool true))))]), none⟩, ⟨(some 3), (.build [(.str []), (.int .i64 0), (.bool false)] [(0, (1, (.c (.str [99, 110])))), (1, (1, (.c (.int .i64 1))))]), none⟩, ⟨(some 4), (.build [(.str []), (.int .i64 0), (.bool false)] [(0, (1, (.c (.str [100, 99])))), (1, (1, (.c (.int .i64 1))))]), none⟩, ⟨(some 5), (.build [(.str []), (.int .i64 0), (.bool false)] [(0, (1, (.c (.str [100, 101, 115, 99, 114, 105, 112, 116, 105, 111, 110])))), (1, (1, (.c (.int .i64 1))))]), none⟩, ⟨(some 6), (.build [(.str []), (.int .i64 0), (.bool false)] [(0, (1, (.c (.str [101, 110, 116, 114, 121, 105, 100])))), (1, (1, (.c (.int .i64 2)))), (2, (1, (.c (.bool true))))]), none⟩, ⟨(some 7), (.build [(.str []), (.int .i64 0), (.bool false)] [(0, (1, (.c (.str [109, 97, 105, 108])))), (1, (1, (.c (.int .i64 2))))]), none⟩, ⟨(some 8), (.build [(.str []), (.int .i64 0), (.bool false)] [(0, (1, (.c (.str [109, 101, 109, 98, 101, 114])))), (1, (1, (.c (.int .i64 5))))]), none⟩, ⟨(some 9), (.build [(.str []), (.int .i64 0), (.bool false)] [(0, (1, (.c (.str [111])))), (1, (1, (.c (.int .i64 1))))]), none⟩, ⟨(some 10), (.build [(.str []), (.int .i64 0), (.bool false)] [(0, (1, (.c (.str [111, 117])))), (1, (1, (.c (.int .i64 1))))]), none⟩, ⟨(some 11), (.build [(.str []), (.int .i64 0), (.bool false)] [(0, (1, (.c (.str [115, 110])))), (1, (1, (.c (.int .i64 1))))]), none⟩, ⟨(some 12), (.build [(.str []), (.int .i64 0), (.bool false)] [(0, (1, (.c (.str [116, 105, 116, 108, 101])))), (1, (1, (.c (.int .i64 1)))), (2, (1, (.c (.bool true))))]), none⟩, ⟨(some 13), (.build [(.str []), (.int .i64 0), (.bool false)] [(0, (1, (.c (.str [117, 105, 100])))), (1, (1, (.c (.int .i64 1))))]), none⟩, ⟨(some 14), (.build [(.str []), (.int .i64 0), (.bool false)] [(0, (1, (.c (.str [117, 105, 100, 110, 117, 109, 98, 101, 114])))), (1, (1, (.c (.int .i64 3)))), (2, (1, (.c (.bool true))))]), none⟩, ⟨(some 15), (.build [(.str []), (.int .i64 0), (.bool false)] [(0, (1, (.c (.str [117, 115, 101, 114, 112, 97, 115, 115, 119, 111, 114, 100])))), (1, (1, (.c (.int .i64 4))))]), none⟩, ⟨(some 16), (.bsl 3 [(.t 1), (.t 2), (.t 3), (.t 4), (.t 5), (.t 6), (.t 7), (.t 8), (.t 9), (.t 10), (.t 11), (.t 12), (.t 13), (.t 14), (.t 15)]), none⟩, ⟨(some 0), (.mov (.t 16)), none⟩]) .ret))
theorem k16_cf : cfunc Tryd.prog Tryd.f16 = some ⟨17, k16, [(.tmp 0)]⟩ := by kernel_rfl
theorem sat_schema_All (N : Nat)  (r : List api_Type) (h : schema_All N  = some r) : Sat Tryd.prog 16 noRows [] (.sl 3 (List.map e_api_Type r)) noRows := by
  refine xsat mixed Tryd.func16 k16_cf (rs := [.sl 3 (List.map e_api_Type r)]) rfl rfl ?_
  refine xseq ?_
  refine xreg ?_
  refine wpp rfl rfl ?_
  refine xseq ?_
  refine xreg ?_
  refine wpp (p := .agg [.str ([97, 99, 105] : List UInt8), .int .i64 2, .bool false]) rfl rfl ?_
  refine wpp (p := .agg [.str ([99] : List UInt8), .int .i64 1, .bool true]) rfl rfl ?_
  refine wpp (p := .agg [.str ([99, 110] : List UInt8), .int .i64 1, .bool false]) rfl rfl ?_
  refine wpp (p := .agg [.str ([100, 99] : List UInt8), .int .i64 1, .bool false]) rfl rfl ?_
  refine wpp (p := .agg [.str ([100, 101, 115, 99, 114, 105, 112, 116, 105, 111, 110] : List UInt8), .int .i64 1, .bool false]) rfl rfl ?_
  refine wpp (p := .agg [.str ([101, 110, 116, 114, 121, 105, 100] : List UInt8), .int .i64 2, .bool true]) rfl rfl ?_
  refine wpp (p := .agg [.str ([109, 97, 105, 108] : List UInt8), .int .i64 2, .bool false]) rfl rfl ?_
  refine wpp (p := .agg [.str ([109, 101, 109, 98, 101, 114] : List UInt8), .int .i64 5, .bool false]) rfl rfl ?_
  refine wpp (p := .agg [.str ([111] : List UInt8), .int .i64 1, .bool false]) rfl rfl ?_
  refine wpp (p := .agg [.str ([111, 117] : List UInt8), .int .i64 1, .bool false]) rfl rfl ?_
  refine wpp (p := .agg [.str ([115, 110] : List UInt8), .int .i64 1, .bool false]) rfl rfl ?_
  refine wpp (p := .agg [.str ([116, 105, 116, 108, 101] : List UInt8), .int .i64 1, .bool true]) rfl rfl ?_
  refine wpp (p := .agg [.str ([117, 105, 100] : List UInt8), .int .i64 1, .bool false]) rfl rfl ?_
  refine wpp (p := .agg [.str ([117, 105, 100, 110, 117, 109, 98, 101, 114] : List UInt8), .int .i64 3, .bool true]) rfl rfl ?_
  refine wpp (p := .agg [.str ([117, 115, 101, 114, 112, 97, 115, 115, 119, 111, 114, 100] : List UInt8), .int .i64 4, .bool false]) rfl rfl ?_
  refine woo rfl (obsl 16 rfl rfl rfl) ?_
  refine wpp rfl rfl ?_
  obtain rfl := someS h
  refine xretn (st1 := ⟨ofL [(0, .sl 3 (List.map e_api_Type [(⟨([97, 99, 105] : List UInt8), 2, false⟩ : api_Type), (⟨([99] : List UInt8), 1, true⟩ : api_Type), (⟨([99, 110] : List UInt8), 1, false⟩ : api_Type), (⟨([100, 99] : List UInt8), 1, false⟩ : api_Type), (⟨([100, 101, 115, 99, 114, 105, 112, 116, 105, 111, 110] : List UInt8), 1, false⟩ : api_Type), (⟨([101, 110, 116, 114, 121, 105, 100] : List UInt8), 2, true⟩ : api_Type), (⟨([109, 97, 105, 108] : List UInt8), 2, false⟩ : api_Type), (⟨([109, 101, 109, 98, 101, 114] : List UInt8), 5, false⟩ : api_Type), (⟨([111] : List UInt8), 1, false⟩ : api_Type), (⟨([111, 117] : List UInt8), 1, false⟩ : api_Type), (⟨([115, 110] : List UInt8), 1, false⟩ : api_Type), (⟨([116, 105, 116, 108, 101] : List UInt8), 1, true⟩ : api_Type), (⟨([117, 105, 100] : List UInt8), 1, false⟩ : api_Type), (⟨([117, 105, 100, 110, 117, 109, 98, 101, 114] : List UInt8), 3, true⟩ : api_Type), (⟨([117, 115, 101, 114, 112, 97, 115, 115, 119, 111, 114, 100] : List UInt8), 4, false⟩ : api_Type)]))], ofL []⟩) (Norm.trans (Vd.freeze 16 _ rfl rfl rfl) (Norm.trans (nsub 0 (sub_eq (congrArg (PV.sl 3) (full_row (f := e_api_Type) (l := [(⟨([97, 99, 105] : List UInt8), 2, false⟩ : api_Type), (⟨([99] : List UInt8), 1, true⟩ : api_Type), (⟨([99, 110] : List UInt8), 1, false⟩ : api_Type), (⟨([100, 99] : List UInt8), 1, false⟩ : api_Type), (⟨([100, 101, 115, 99, 114, 105, 112, 116, 105, 111, 110] : List UInt8), 1, false⟩ : api_Type), (⟨([101, 110, 116, 114, 121, 105, 100] : List UInt8), 2, true⟩ : api_Type), (⟨([109, 97, 105, 108] : List UInt8), 2, false⟩ : api_Type), (⟨([109, 101, 109, 98, 101, 114] : List UInt8), 5, false⟩ : api_Type), (⟨([111] : List UInt8), 1, false⟩ : api_Type), (⟨([111, 117] : List UInt8), 1, false⟩ : api_Type), (⟨([115, 110] : List UInt8), 1, false⟩ : api_Type), (⟨([116, 105, 116, 108, 101] : List UInt8), 1, true⟩ : api_Type), (⟨([117, 105, 100] : List UInt8), 1, false⟩ : api_Type), (⟨([117, 105, 100, 110, 117, 109, 98, 101, 114] : List UInt8), 3, true⟩ : api_Type), (⟨([117, 115, 101, 114, 112, 97, 115, 115, 119, 111, 114, 100] : List UInt8), 4, false⟩ : api_Type)])))) rfl) (canon0 ⟨rfl, trivial⟩ trivial rfl rfl))) ?_
  exact ⟨nofun, rfl, rfl⟩
end Go.Gp
end
section
set_option linter.unusedVariables false
set_option linter.unusedSimpArgs false
set_option maxRecDepth 4000
namespace Go.Gp
open Go.Vd Go.RowKit Go.Proofs
def k10_l8 : IC := (.seq (.reg [⟨(some 11), (.bin .lss (.t 10) (.t 9)), none⟩]) (.seq (.cond (.t 11) .skip (.exit 0)) (.seq (.block 1 (.seq (.reg [⟨(some 12), (.ixp 3 (.t 8) (.t 10)), none⟩, ⟨(some 13), (.load 3 true (.t 12)), none⟩, ⟨(some 5), (.box 24 (.c (.agg [(.str []), (.int .i64 0), (.bool false)]))), none⟩, ⟨none, (.store 3 (.t 5) (.t 13)), none⟩]) (.seq (.reg [⟨(some 14), (.fda 0 (.t 5)), none⟩, ⟨(some 15), (.load 1 false (.t 14)), none⟩, ⟨(some 16), (.mov (.t 0)), none⟩, ⟨(some 17), (.bin .eql (.t 15) (.t 16)), none⟩]) (.cond (.t 17) (.seq (.reg [⟨(some 18), (.load 3 true (.t 5)), none⟩, ⟨none, (.store 3 (.t 2) (.t 18)), none⟩, ⟨(some 3), (.mov (.c (.bool true))), none⟩]) .ret) .skip)))) (.reg [⟨(some 19), (.bin .add (.t 10) (.c (.int .i64 1))), none⟩, ⟨(some 10), (.mov (.t 19)), none⟩]))))
def k10 : IC := (.seq (.reg [⟨(some 2), (.box 24 (.c (.agg [(.str []), (.int .i64 0), (.bool false)]))), none⟩, ⟨(some 3), (.mov (.c (.bool false))), none⟩]) (.seq (.reg [⟨(some 6), (.mov (.t 0)), none⟩, ⟨(some 7), (.call 28 [(.t 6)]), none⟩, ⟨(some 0), (.mov (.t 7)), none⟩]) (.seq (.seq (.reg [⟨(some 8), (.call 16 []), none⟩, ⟨(some 9), (.len false (.t 8)), none⟩, ⟨(some 10), (.mov (.c (.int .i64 0))), none⟩]) (.block 0 (.loop k10_l8))) (.seq (.reg [⟨(some 20), (.build [(.str []), (.int .i64 0), (.bool false)] []), none⟩, ⟨none, (.store 3 (.t 2) (.t 20)), none⟩, ⟨(some 3), (.mov (.c (.bool false))), none⟩]) .ret))))
theorem k10_cf : cfunc Tryd.prog Tryd.f10 = some ⟨21, k10, [(.cell 3 true 2), (.tmp 3)]⟩ := by kernel_rfl
theorem w_schema_Find_l8 (N : Nat) (x7 : List UInt8) (x8 : List api_Type) : ∀ (n : Nat) (x : Int) (y : Unit ⊕ (api_Type × Bool)), schema_Find_l8 N x7 x8 n x = some y → WX Tryd.prog (fun _ => false) (.loop k10_l8) ((fun (x : Int) => ⟨ofL [(0, .str x7), (2, .ptr 2 0 0), (8, .sl 3 (List.map e_api_Type x8)), (9, .int .i64 (x8.length : Int)), (10, .int .i64 x)], ofL [(2, ⟨3, false, [.agg [.str ([] : List UInt8), .int .i64 0, .bool false]]⟩)]⟩) x) ((Sum.elim (fun y e s => e = .exit 0 ∧ s = ⟨ofL [(2, .ptr 2 0 0)], ofL [(2, ⟨3, false, [.agg [.str ([] : List UInt8), .int .i64 0, .bool false]]⟩)]⟩) (fun y e s => e = .ret ∧ s = ⟨ofL [(2, .ptr 2 0 0), (3, .bool y.2)], ofL [(2, ⟨3, false, [e_api_Type y.1]⟩)]⟩) : (Unit ⊕ (api_Type × Bool)) → Xt → St → Prop) y) := by
  refine xloop (fun (x : Int) => ⟨ofL [(0, .str x7), (2, .ptr 2 0 0), (8, .sl 3 (List.map e_api_Type x8)), (9, .int .i64 (x8.length : Int)), (10, .int .i64 x)], ofL [(2, ⟨3, false, [.agg [.str ([] : List UInt8), .int .i64 0, .bool false]]⟩)]⟩) _ (schema_Find_l8 N x7 x8) (schema_Find_l8_b N x7 x8) (fun _ => rfl) (fun _ _ => rfl) ?_
  rintro rec v10l8 y h
  refine xseq ?_
  refine xreg ?_
  refine wpp rfl rfl ?_
  refine xseq ?_
  rcases bifS h with ⟨c1, h⟩ | ⟨c1, h⟩
  · refine xcT rfl c1 ?_
    refine xskip ?_
    refine xseq ?_
    refine xblk ?_
    refine xseq ?_
    refine xreg ?_
    obtain ⟨x12, hx12, h⟩ := bindS h
    refine wpp rfl (p_ixs (cs := [.str x12.Name, .int .i64 x12.Syntax, .bool x12.Single]) hx12 rfl rfl rfl) ?_
    refine wpp (p := e_api_Type x12) rfl rfl ?_
    refine woo rfl (obox 5 rfl rfl rfl rfl rfl) ?_
    refine wstb (e' := e_api_Type x12) rfl rfl rfl rfl rfl rfl rfl rfl nofun rfl ?_
    refine xseq ?_
    refine xreg ?_
    refine wpp rfl rfl ?_
    refine wpp rfl rfl ?_
    refine wpp rfl rfl ?_
    refine wpp rfl rfl ?_
    rcases bifS h with ⟨c2, h⟩ | ⟨c2, h⟩
    · refine xcT rfl c2 ?_
      refine xseq ?_
      refine xreg ?_
      refine wpp (p := e_api_Type x12) rfl rfl ?_
      refine wstb (e' := e_api_Type x12) rfl rfl rfl rfl rfl rfl rfl rfl nofun rfl ?_
      refine wpp rfl rfl ?_
      obtain rfl := someS h
      exact xretn (st1 := ⟨ofL [(2, .ptr 2 0 0), (3, .bool true)], ofL [(2, ⟨3, false, [e_api_Type x12]⟩)]⟩) (canon0 ⟨rfl, rfl, trivial⟩ ⟨rfl, trivial⟩ rfl rfl) ⟨rfl, rfl⟩
    · refine xcF rfl c2 ?_
      refine xskip ?_
      refine xreg ?_
      refine wpp (p := .int .i64 (w64 (v10l8 + (1 : Int)))) rfl rfl ?_
      refine wpp rfl rfl ?_
      exact ⟨(w64 (v10l8 + (1 : Int))), (canon0 ⟨rfl, rfl, rfl, rfl, rfl, trivial⟩ ⟨rfl, trivial⟩ rfl rfl), h⟩
  · refine xcF rfl c1 ?_
    obtain rfl := someS h
    exact xexitn (st1 := ⟨ofL [(2, .ptr 2 0 0)], ofL [(2, ⟨3, false, [.agg [.str ([] : List UInt8), .int .i64 0, .bool false]]⟩)]⟩) (canon0 ⟨rfl, trivial⟩ ⟨rfl, trivial⟩ rfl rfl) ⟨rfl, rfl⟩
theorem sat_schema_Find (N : Nat) (a0 : List UInt8) (r : api_Type × Bool) (h : schema_Find N a0 = some r) : Sat Tryd.prog 10 noRows [.str a0] (.tup [e_api_Type r.1, .bool r.2]) noRows := by
  refine xsat mixed Tryd.func10 k10_cf (rs := [e_api_Type r.1, .bool r.2]) rfl rfl ?_
  refine xseq ?_
  refine xreg ?_
  refine woo rfl (obox 2 rfl rfl rfl rfl rfl) ?_
  refine wpp rfl rfl ?_
  refine xseq ?_
  refine xreg ?_
  refine wpp rfl rfl ?_
  obtain ⟨x7, hx7, h⟩ := bindS h
  refine woo rfl (ocal (sat_dn_Lower N _ _ hx7) rfl (.cons sub_rfl .nil) rfl rfl rfl) ?_
  refine wpp rfl rfl ?_
  refine xseq ?_
  refine xseq ?_
  refine xreg ?_
  obtain ⟨x8, hx8, h⟩ := bindS h
  refine woo rfl (ocal (sat_schema_All N _ hx8) rfl .nil rfl rfl rfl) ?_
  refine wpp rfl (p_lens rfl) ?_
  refine wpp rfl rfl ?_
  refine xblk ?_
  obtain ⟨y3, hy3, h⟩ := bindS h
  refine xloopU (st1 := ⟨ofL [(0, .str x7), (2, .ptr 2 0 0), (8, .sl 3 (List.map e_api_Type x8)), (9, .int .i64 (x8.length : Int)), (10, .int .i64 0)], ofL [(2, ⟨3, false, [.agg [.str ([] : List UInt8), .int .i64 0, .bool false]]⟩)]⟩) (canon0 ⟨rfl, rfl, rfl, rfl, rfl, trivial⟩ ⟨rfl, trivial⟩ rfl rfl) (w_schema_Find_l8 N x7 x8 N _ _ hy3) ?_
  clear hy3
  rcases y3 with y3 | y3
  · rintro e s ⟨rfl, rfl⟩
    refine xseq ?_
    refine xreg ?_
    refine wpp (p := .agg [.str ([] : List UInt8), .int .i64 0, .bool false]) rfl rfl ?_
    refine wstb (e' := .agg [.str ([] : List UInt8), .int .i64 0, .bool false]) rfl rfl rfl rfl rfl rfl rfl rfl nofun rfl ?_
    refine wpp rfl rfl ?_
    obtain rfl := someS h
    refine xret ?_
    exact ⟨nofun, rfl, rfl⟩
  · rintro e s ⟨rfl, rfl⟩
    obtain rfl := someS h
    exact ⟨nofun, rfl, rfl⟩
end Go.Gp
end
section
set_option linter.unusedVariables false
set_option linter.unusedSimpArgs false
set_option maxRecDepth 4000
namespace Go.Gp
open Go.Vd Go.RowKit Go.Proofs
def k38_l8 : IC := (.seq (.reg [⟨(some 9), (.bin .lss (.t 8) (.t 7)), none⟩]) (.seq (.cond (.t 9) .skip (.exit 0)) (.seq (.block 1 (.seq (.reg [⟨(some 10), (.mov (.t 8)), none⟩, ⟨(some 4), (.mov (.t 10)), none⟩]) (.seq (.reg [⟨(some 11), (.mov (.t 0)), none⟩, ⟨(some 12), (.mov (.t 4)), none⟩, ⟨(some 13), (.idxs (.t 11) (.t 12)), none⟩, ⟨(some 14), (.call 51 [(.c (.str [114, 115, 99, 119, 97, 100])), (.t 13)]), none⟩, ⟨(some 5), (.mov (.t 14)), none⟩]) (.seq (.seq (.reg [⟨(some 15), (.mov (.t 5)), none⟩, ⟨(some 16), (.mov (.t 3)), none⟩, ⟨(some 17), (.bin .leq (.t 15) (.t 16)), none⟩]) (.cond (.t 17) (.seq (.reg [⟨(some 2), (.mov (.c (.bool false))), none⟩]) .ret) .skip)) (.reg [⟨(some 18), (.mov (.t 5)), none⟩, ⟨(some 3), (.mov (.t 18)), none⟩]))))) (.reg [⟨(some 19), (.bin .add (.t 8) (.c (.int .i64 1))), none⟩, ⟨(some 8), (.mov (.t 19)), none⟩]))))
def k38 : IC := (.seq (.reg [⟨(some 2), (.mov (.c (.bool false))), none⟩]) (.seq (.reg [⟨(some 3), (.mov (.c (.int .i64 (-1)))), none⟩]) (.seq (.seq (.reg [⟨(some 6), (.mov (.t 0)), none⟩, ⟨(some 7), (.len true (.t 6)), none⟩, ⟨(some 8), (.mov (.c (.int .i64 0))), none⟩]) (.block 0 (.loop k38_l8))) (.seq (.reg [⟨(some 20), (.mov (.t 3)), none⟩, ⟨(some 21), (.bin .geq (.t 20) (.c (.int .i64 0))), none⟩, ⟨(some 2), (.mov (.t 21)), none⟩]) .ret))))
theorem k38_cf : cfunc Tryd.prog Tryd.f38 = some ⟨22, k38, [(.tmp 2)]⟩ := by kernel_rfl
theorem w_aci_isRights_l8 (N : Nat) (a0 : List UInt8) : ∀ (n : Nat) (x : Int × Int) (y : Int ⊕ Bool), aci_isRights_l8 N a0 n x = some y → WX Tryd.prog (fun _ => false) (.loop k38_l8) ((fun (x : Int × Int) => ⟨ofL [(0, .str a0), (3, .int .i64 x.1), (7, .int .i64 (a0.length : Int)), (8, .int .i64 x.2)], ofL []⟩) x) ((Sum.elim (fun y e s => e = .exit 0 ∧ s = ⟨ofL [(3, .int .i64 y)], ofL []⟩) (fun y e s => e = .ret ∧ s = ⟨ofL [(2, .bool y)], ofL []⟩) : (Int ⊕ Bool) → Xt → St → Prop) y) := by
  refine xloop (fun (x : Int × Int) => ⟨ofL [(0, .str a0), (3, .int .i64 x.1), (7, .int .i64 (a0.length : Int)), (8, .int .i64 x.2)], ofL []⟩) _ (aci_isRights_l8 N a0) (aci_isRights_l8_b N a0) (fun _ => rfl) (fun _ _ => rfl) ?_
  rintro rec ⟨v3l8, v8l8⟩ y h
  refine xseq ?_
  refine xreg ?_
  refine wpp rfl rfl ?_
  refine xseq ?_
  rcases bifS h with ⟨c1, h⟩ | ⟨c1, h⟩
  · refine xcT rfl c1 ?_
    refine xskip ?_
    refine xseq ?_
    refine xblk ?_
    refine xseq ?_
    refine xreg ?_
    refine wpp rfl rfl ?_
    refine wpp rfl rfl ?_
    refine xseq ?_
    refine xreg ?_
    refine wpp rfl rfl ?_
    refine wpp rfl rfl ?_
    obtain ⟨x13, hx13, h⟩ := bindS h
    refine wpp rfl (p_idx hx13 rfl rfl) ?_
    obtain ⟨x14, hx14, h⟩ := bindS h
    refine woo rfl (ocal (sat_strings_IndexByte N _ _ _ hx14) rfl (.cons sub_rfl (.cons sub_rfl .nil)) rfl rfl rfl) ?_
    refine wpp rfl rfl ?_
    refine xseq ?_
    refine xseq ?_
    refine xreg ?_
    refine wpp rfl rfl ?_
    refine wpp rfl rfl ?_
    refine wpp rfl rfl ?_
    rcases bifS h with ⟨c2, h⟩ | ⟨c2, h⟩
    · refine xcT rfl c2 ?_
      refine xseq ?_
      refine xreg ?_
      refine wpp rfl rfl ?_
      obtain rfl := someS h
      exact xretn (st1 := ⟨ofL [(2, .bool false)], ofL []⟩) (canon0 ⟨rfl, trivial⟩ trivial rfl rfl) ⟨rfl, rfl⟩
    · refine xcF rfl c2 ?_
      refine xskip ?_
      refine xreg ?_
      refine wpp rfl rfl ?_
      refine wpp rfl rfl ?_
      refine xreg ?_
      refine wpp (p := .int .i64 (w64 (v8l8 + (1 : Int)))) rfl rfl ?_
      refine wpp rfl rfl ?_
      exact ⟨(x14, (w64 (v8l8 + (1 : Int)))), (canon0 ⟨rfl, rfl, rfl, rfl, trivial⟩ trivial rfl rfl), h⟩
  · refine xcF rfl c1 ?_
    obtain rfl := someS h
    exact xexitn (st1 := ⟨ofL [(3, .int .i64 v3l8)], ofL []⟩) (canon0 ⟨rfl, trivial⟩ trivial rfl rfl) ⟨rfl, rfl⟩
theorem sat_aci_isRights (N : Nat) (a0 : List UInt8) (r : Bool) (h : aci_isRights N a0 = some r) : Sat Tryd.prog 38 noRows [.str a0] (.bool r) noRows := by
  refine xsat mixed Tryd.func38 k38_cf (rs := [.bool r]) rfl rfl ?_
  refine xseq ?_
  refine xreg ?_
  refine wpp rfl rfl ?_
  refine xseq ?_
  refine xreg ?_
  refine wpp rfl rfl ?_
  refine xseq ?_
  refine xseq ?_
  refine xreg ?_
  refine wpp rfl rfl ?_
  refine wpp rfl rfl ?_
  refine wpp rfl rfl ?_
  refine xblk ?_
  obtain ⟨y3, hy3, h⟩ := bindS h
  refine xloopU (st1 := ⟨ofL [(0, .str a0), (3, .int .i64 (-1)), (7, .int .i64 (a0.length : Int)), (8, .int .i64 0)], ofL []⟩) (canon0 ⟨rfl, rfl, rfl, rfl, trivial⟩ trivial rfl rfl) (w_aci_isRights_l8 N a0 N _ _ hy3) ?_
  clear hy3
  rcases y3 with y3 | y3
  · rintro e s ⟨rfl, rfl⟩
    refine xseq ?_
    refine xreg ?_
    refine wpp rfl rfl ?_
    refine wpp rfl rfl ?_
    refine wpp rfl rfl ?_
    obtain rfl := someS h
    refine xret ?_
    exact ⟨nofun, rfl, rfl⟩
  · rintro e s ⟨rfl, rfl⟩
    obtain rfl := someS h
    exact ⟨nofun, rfl, rfl⟩
end Go.Gp
end
section
set_option linter.unusedVariables false
set_option linter.unusedSimpArgs false
set_option maxRecDepth 4000
namespace Go.Gp
open Go.Vd Go.RowKit Go.Proofs
def k68 : IC := (.seq (.reg [⟨(some 4), (.mov (.c (.bool false))), none⟩]) (.seq (.reg [⟨(some 5), (.mov (.t 0)), none⟩, ⟨(some 6), (.len true (.t 5)), none⟩, ⟨(some 7), (.mov (.t 1)), none⟩, ⟨(some 8), (.len true (.t 7)), none⟩, ⟨(some 9), (.bin .geq (.t 6) (.t 8)), none⟩, ⟨(some 10), (.mov (.t 9)), none⟩, ⟨(some 11), (.mov (.t 0)), (some (10, true))⟩, ⟨(some 12), (.mov (.t 1)), (some (10, true))⟩, ⟨(some 13), (.len true (.t 12)), (some (10, true))⟩, ⟨(some 14), (.slcs (.t 11) none (some (.t 13))), (some (10, true))⟩, ⟨(some 15), (.mov (.t 1)), (some (10, true))⟩, ⟨(some 16), (.bin .eql (.t 14) (.t 15)), (some (10, true))⟩, ⟨(some 17), (.pick (.t 10) (.t 16) (.c (.bool false))), none⟩, ⟨(some 4), (.mov (.t 17)), none⟩]) .ret))
theorem k68_cf : cfunc Tryd.prog Tryd.f68 = some ⟨18, k68, [(.tmp 4)]⟩ := by kernel_rfl
theorem sat_internal_stringslite_HasPrefix (N : Nat) (a0 : List UInt8) (a1 : List UInt8) (r : Bool) (h : internal_stringslite_HasPrefix N a0 a1 = some r) : Sat Tryd.prog 68 noRows [.str a0, .str a1] (.bool r) noRows := by
  refine xsat mixed Tryd.func68 k68_cf (rs := [.bool r]) rfl rfl ?_
  refine xseq ?_
  refine xreg ?_
  refine wpp rfl rfl ?_
  obtain ⟨g1, hg1, h⟩ := bindS h
  refine xseg ⟨ofL [(4, .bool g1)], ofL []⟩ ?_ ?_
  · have h := hg1
    refine xreg ?_
    refine wpp rfl rfl ?_
    refine wpp rfl rfl ?_
    refine wpp rfl rfl ?_
    refine wpp rfl rfl ?_
    refine wpp rfl rfl ?_
    refine wpp rfl rfl ?_
    rcases bifS h with ⟨c2, h⟩ | ⟨c2, h⟩
    · skip
      refine wpp (gy rfl c2) rfl ?_
      refine wpp (gy rfl c2) rfl ?_
      refine wpp (gy rfl c2) rfl ?_
      obtain ⟨x14, hx14, h⟩ := bindS h
      refine wpp (gy rfl c2) (p_take hx14 rfl rfl) ?_
      refine wpp (gy rfl c2) rfl ?_
      refine wpp (gy rfl c2) rfl ?_
      refine wpp rfl (p_pick1 c2 rfl rfl) ?_
      refine wpp rfl rfl ?_
      obtain rfl := someS h
      exact (canon0 ⟨rfl, trivial⟩ trivial rfl rfl)
    · skip
      refine wsk (gn rfl c2) ?_
      refine wsk (gn rfl c2) ?_
      refine wsk (gn rfl c2) ?_
      refine wsk (gn rfl c2) ?_
      refine wsk (gn rfl c2) ?_
      refine wsk (gn rfl c2) ?_
      refine wpp rfl (p_pick0 c2 rfl rfl) ?_
      refine wpp rfl rfl ?_
      obtain rfl := someS h
      exact (canon0 ⟨rfl, trivial⟩ trivial rfl rfl)
  · clear hg1
    obtain rfl := someS h
    refine xret ?_
    exact ⟨nofun, rfl, rfl⟩
end Go.Gp
end
section
set_option linter.unusedVariables false
set_option linter.unusedSimpArgs false
set_option maxRecDepth 4000
namespace Go.Gp
open Go.Vd Go.RowKit Go.Proofs
def k74 : IC := (.seq (.reg [⟨(some 4), (.mov (.c (.str []))), none⟩, ⟨(some 5), (.mov (.c (.bool false))), none⟩]) (.seq (.seq (.reg [⟨(some 6), (.mov (.t 0)), none⟩, ⟨(some 7), (.mov (.t 1)), none⟩, ⟨(some 8), (.call 68 [(.t 6), (.t 7)]), none⟩, ⟨(some 9), (.un .not (.t 8)), none⟩]) (.cond (.t 9) (.seq (.reg [⟨(some 10), (.mov (.t 0)), none⟩, ⟨(some 4), (.mov (.t 10)), none⟩, ⟨(some 5), (.mov (.c (.bool false))), none⟩]) .ret) .skip)) (.seq (.reg [⟨(some 11), (.mov (.t 0)), none⟩, ⟨(some 12), (.mov (.t 1)), none⟩, ⟨(some 13), (.len true (.t 12)), none⟩, ⟨(some 14), (.slcs (.t 11) (some (.t 13)) none), none⟩, ⟨(some 4), (.mov (.t 14)), none⟩, ⟨(some 5), (.mov (.c (.bool true))), none⟩]) .ret)))
theorem k74_cf : cfunc Tryd.prog Tryd.f74 = some ⟨15, k74, [(.tmp 4), (.tmp 5)]⟩ := by kernel_rfl
theorem sat_internal_stringslite_CutPrefix (N : Nat) (a0 : List UInt8) (a1 : List UInt8) (r : List UInt8 × Bool) (h : internal_stringslite_CutPrefix N a0 a1 = some r) : Sat Tryd.prog 74 noRows [.str a0, .str a1] (.tup [.str r.1, .bool r.2]) noRows := by
  refine xsat mixed Tryd.func74 k74_cf (rs := [.str r.1, .bool r.2]) rfl rfl ?_
  refine xseq ?_
  refine xreg ?_
  refine wpp rfl rfl ?_
  refine wpp rfl rfl ?_
  refine xseq ?_
  refine xseq ?_
  refine xreg ?_
  refine wpp rfl rfl ?_
  refine wpp rfl rfl ?_
  obtain ⟨x8, hx8, h⟩ := bindS h
  refine woo rfl (ocal (sat_internal_stringslite_HasPrefix N _ _ _ hx8) rfl (.cons sub_rfl (.cons sub_rfl .nil)) rfl rfl rfl) ?_
  refine wpp rfl rfl ?_
  rcases bifS h with ⟨c1, h⟩ | ⟨c1, h⟩
  · refine xcT rfl c1 ?_
    refine xseq ?_
    refine xreg ?_
    refine wpp rfl rfl ?_
    refine wpp rfl rfl ?_
    refine wpp rfl rfl ?_
    obtain rfl := someS h
    refine xret ?_
    exact ⟨nofun, rfl, rfl⟩
  · refine xcF rfl c1 ?_
    refine xskip ?_
    refine xseq ?_
    refine xreg ?_
    refine wpp rfl rfl ?_
    refine wpp rfl rfl ?_
    refine wpp rfl rfl ?_
    obtain ⟨x14, hx14, h⟩ := bindS h
    refine wpp rfl (p_drop hx14 rfl rfl) ?_
    refine wpp rfl rfl ?_
    refine wpp rfl rfl ?_
    obtain rfl := someS h
    refine xret ?_
    exact ⟨nofun, rfl, rfl⟩
end Go.Gp
end
section
set_option linter.unusedVariables false
set_option linter.unusedSimpArgs false
set_option maxRecDepth 4000
namespace Go.Gp
open Go.Vd Go.RowKit Go.Proofs
def k52 : IC := (.seq (.reg [⟨(some 4), (.mov (.c (.str []))), none⟩, ⟨(some 5), (.mov (.c (.bool false))), none⟩]) (.seq (.reg [⟨(some 6), (.mov (.t 0)), none⟩, ⟨(some 7), (.mov (.t 1)), none⟩, ⟨(some 8), (.call 74 [(.t 6), (.t 7)]), none⟩, ⟨(some 9), (.ext 0 (.t 8)), none⟩, ⟨(some 10), (.ext 1 (.t 8)), none⟩, ⟨(some 4), (.mov (.t 9)), none⟩, ⟨(some 5), (.mov (.t 10)), none⟩]) .ret))
theorem k52_cf : cfunc Tryd.prog Tryd.f52 = some ⟨11, k52, [(.tmp 4), (.tmp 5)]⟩ := by kernel_rfl
theorem sat_strings_CutPrefix (N : Nat) (a0 : List UInt8) (a1 : List UInt8) (r : List UInt8 × Bool) (h : strings_CutPrefix N a0 a1 = some r) : Sat Tryd.prog 52 noRows [.str a0, .str a1] (.tup [.str r.1, .bool r.2]) noRows := by
  refine xsat mixed Tryd.func52 k52_cf (rs := [.str r.1, .bool r.2]) rfl rfl ?_
  refine xseq ?_
  refine xreg ?_
  refine wpp rfl rfl ?_
  refine wpp rfl rfl ?_
  refine xseq ?_
  refine xreg ?_
  refine wpp rfl rfl ?_
  refine wpp rfl rfl ?_
  obtain ⟨x8, hx8, h⟩ := bindS h
  refine woo rfl (ocal (sat_internal_stringslite_CutPrefix N _ _ _ hx8) rfl (.cons sub_rfl (.cons sub_rfl .nil)) rfl rfl rfl) ?_
  refine wpp rfl rfl ?_
  refine wpp rfl rfl ?_
  refine wpp rfl rfl ?_
  refine wpp rfl rfl ?_
  obtain rfl := someS h
  refine xret ?_
  exact ⟨nofun, rfl, rfl⟩
end Go.Gp
end
section
set_option linter.unusedVariables false
set_option linter.unusedSimpArgs false
set_option maxRecDepth 4000
namespace Go.Gp
open Go.Vd Go.RowKit Go.Proofs
def k64_l10 : IC := (.seq (.seq (.reg [⟨(some 8), (.mov (.t 7)), none⟩, ⟨(some 9), (.mov (.t 0)), none⟩, ⟨(some 10), (.len true (.t 9)), none⟩, ⟨(some 11), (.bin .lss (.t 8) (.t 10)), none⟩]) (.cond (.t 11) .skip (.exit 0))) (.seq (.block 1 (.seq (.reg [⟨(some 14), (.mov (.t 0)), none⟩, ⟨(some 15), (.mov (.t 7)), none⟩, ⟨(some 16), (.idxs (.t 14) (.t 15)), none⟩]) (.block 2 (.seq (.reg [⟨(some 18), (.bin .eql (.t 16) (.c (.int .u8 92))), none⟩, ⟨(some 17), (.mov (.t 18)), none⟩]) (.cond (.t 17) (.reg [⟨(some 19), (.mov (.t 7)), none⟩, ⟨(some 20), (.bin .add (.t 19) (.c (.int .i64 1))), none⟩, ⟨(some 7), (.mov (.t 20)), none⟩]) (.seq (.reg [⟨(some 22), (.mov (.t 1)), none⟩, ⟨(some 23), (.bin .eql (.t 16) (.t 22)), none⟩, ⟨(some 21), (.mov (.t 23)), none⟩]) (.cond (.t 21) (.seq (.reg [⟨(some 24), (.mov (.t 5)), none⟩, ⟨(some 25), (.mov (.t 0)), none⟩, ⟨(some 26), (.mov (.t 6)), none⟩, ⟨(some 27), (.mov (.t 7)), none⟩, ⟨(some 28), (.slcs (.t 25) (some (.t 26)) (some (.t 27))), none⟩, ⟨(some 29), (.bsl 1 [(.t 28)]), none⟩, ⟨(some 30), (.app 9 1 16 (.t 24) (.t 29)), none⟩, ⟨(some 5), (.mov (.t 30)), none⟩]) (.reg [⟨(some 31), (.mov (.t 7)), none⟩, ⟨(some 32), (.bin .add (.t 31) (.c (.int .i64 1))), none⟩, ⟨(some 6), (.mov (.t 32)), none⟩])) .skip))))))) (.reg [⟨(some 12), (.mov (.t 7)), none⟩, ⟨(some 13), (.bin .add (.t 12) (.c (.int .i64 1))), none⟩, ⟨(some 7), (.mov (.t 13)), none⟩])))
def k64 : IC := (.seq (.reg [⟨(some 4), (.mov (.c .nl)), none⟩]) (.seq (.reg [⟨(some 5), (.mov (.c .nl)), none⟩]) (.seq (.reg [⟨(some 6), (.mov (.c (.int .i64 0))), none⟩]) (.seq (.seq (.reg [⟨(some 7), (.mov (.c (.int .i64 0))), none⟩]) (.block 0 (.loop k64_l10))) (.seq (.reg [⟨(some 33), (.mov (.t 5)), none⟩, ⟨(some 34), (.mov (.t 0)), none⟩, ⟨(some 35), (.mov (.t 6)), none⟩, ⟨(some 36), (.slcs (.t 34) (some (.t 35)) none), none⟩, ⟨(some 37), (.bsl 1 [(.t 36)]), none⟩, ⟨(some 38), (.app 9 1 16 (.t 33) (.t 37)), none⟩, ⟨(some 4), (.mov (.t 38)), none⟩]) .ret)))))
theorem k64_cf : cfunc Tryd.prog Tryd.f64 = some ⟨39, k64, [(.tmp 4)]⟩ := by kernel_rfl
theorem w_dn_cut_l10 (N : Nat) (a0 : List UInt8) (a1 : UInt8) : ∀ (n : Nat) (x : Int × Int × List (List UInt8)) (y : Int × List (List UInt8)), dn_cut_l10 N a0 a1 n x = some y → WX Tryd.prog (fun _ => false) (.loop k64_l10) ((fun (x : Int × Int × List (List UInt8)) => ⟨ofL [(0, .str a0), (1, eb a1), (5, .slr 1005 0 x.2.2.length), (6, .int .i64 x.1), (7, .int .i64 x.2.1)], ofL [(1005, ⟨1, true, List.map PV.str x.2.2⟩)]⟩) x) ((fun y e s => e = .exit 0 ∧ s = ⟨ofL [(0, .str a0), (5, .slr 1005 0 y.2.length), (6, .int .i64 y.1)], ofL [(1005, ⟨1, true, List.map PV.str y.2⟩)]⟩ : (Int × List (List UInt8)) → Xt → St → Prop) y) := by
  refine xloop (fun (x : Int × Int × List (List UInt8)) => ⟨ofL [(0, .str a0), (1, eb a1), (5, .slr 1005 0 x.2.2.length), (6, .int .i64 x.1), (7, .int .i64 x.2.1)], ofL [(1005, ⟨1, true, List.map PV.str x.2.2⟩)]⟩) _ (dn_cut_l10 N a0 a1) (dn_cut_l10_b N a0 a1) (fun _ => rfl) (fun _ _ => rfl) ?_
  rintro rec ⟨v6l10, v7l10, r1005l10⟩ y h
  refine xseq ?_
  refine xseq ?_
  refine xreg ?_
  refine wpp rfl rfl ?_
  refine wpp rfl rfl ?_
  refine wpp rfl rfl ?_
  refine wpp rfl rfl ?_
  rcases bifS h with ⟨c1, h⟩ | ⟨c1, h⟩
  · refine xcT rfl c1 ?_
    refine xskip ?_
    refine xjoin (fun (x : Int × Int × List (List UInt8)) => ⟨ofL [(0, .str a0), (1, eb a1), (5, .slr 1005 0 x.2.2.length), (6, .int .i64 x.1), (7, .int .i64 x.2.1)], ofL [(1005, ⟨1, true, List.map PV.str x.2.2⟩)]⟩) (fun x => dn_cut_j17 rec x.1 x.2.1 x.2.2 = some y) ?_ ?_
    · rintro ⟨v6j17, v7j17, r1005j17⟩ h
      refine xreg ?_
      refine wpp rfl rfl ?_
      refine wpp (p := .int .i64 (w64 (v7j17 + (1 : Int)))) rfl rfl ?_
      refine wpp rfl rfl ?_
      exact ⟨(v6j17, (w64 (v7j17 + (1 : Int))), r1005j17), (canon0 ⟨rfl, rfl, rfl, rfl, rfl, trivial⟩ ⟨rfl, trivial⟩ rfl rfl), h⟩
    · skip
      refine xblk ?_
      refine xseq ?_
      refine xreg ?_
      refine wpp rfl rfl ?_
      refine wpp rfl rfl ?_
      obtain ⟨x16, hx16, h⟩ := bindS h
      refine wpp rfl (p_idx hx16 rfl rfl) ?_
      refine xblk ?_
      refine xseq ?_
      refine xreg ?_
      refine wpp (p := .bool (((x16).toNat : Int) == (92 : Int))) rfl rfl ?_
      refine wpp rfl rfl ?_
      rcases bifS h with ⟨c2, h⟩ | ⟨c2, h⟩
      · refine xcT rfl c2 ?_
        refine xreg ?_
        refine wpp rfl rfl ?_
        refine wpp (p := .int .i64 (w64 (v7l10 + (1 : Int)))) rfl rfl ?_
        refine wpp rfl rfl ?_
        exact ⟨(v6l10, (w64 (v7l10 + (1 : Int))), r1005l10), (canon0 ⟨rfl, rfl, rfl, rfl, rfl, trivial⟩ ⟨rfl, trivial⟩ rfl rfl), h⟩
      · refine xcF rfl c2 ?_
        refine xseq ?_
        refine xreg ?_
        refine wpp rfl rfl ?_
        refine wpp (p := .bool (((x16).toNat : Int) == ((a1).toNat : Int))) rfl rfl ?_
        refine wpp rfl rfl ?_
        rcases bifS h with ⟨c3, h⟩ | ⟨c3, h⟩
        · refine xcT rfl c3 ?_
          refine xseq ?_
          refine xreg ?_
          refine wpp rfl rfl ?_
          refine wpp rfl rfl ?_
          refine wpp rfl rfl ?_
          refine wpp rfl rfl ?_
          obtain ⟨x28, hx28, h⟩ := bindS h
          refine wpp rfl (p_cut hx28 rfl rfl rfl) ?_
          refine woo rfl (obsl 29 rfl rfl rfl) ?_
          obtain ⟨x30, hx30, h⟩ := bindS h
          refine wapp (f := PV.str) 30 hx30 rfl rfl rfl rfl rfl (el_row rfl (full_row (f := PV.str) (l := [x28]))) rfl rfl rfl rfl ?_
          refine wpp rfl rfl ?_
          refine xreg ?_
          refine wpp rfl rfl ?_
          refine wpp (p := .int .i64 (w64 (v7l10 + (1 : Int)))) rfl rfl ?_
          refine wpp rfl rfl ?_
          exact ⟨((w64 (v7l10 + (1 : Int))), v7l10, x30), (Norm.trans (rename 30 1005 rfl rfl) (canon0 ⟨rfl, rfl, rfl, rfl, rfl, trivial⟩ ⟨rfl, trivial⟩ rfl rfl)), h⟩
        · refine xcF rfl c3 ?_
          refine xskip ?_
          exact ⟨(v6l10, v7l10, r1005l10), (canon0 ⟨rfl, rfl, rfl, rfl, rfl, trivial⟩ ⟨rfl, trivial⟩ rfl rfl), h⟩
  · refine xcF rfl c1 ?_
    obtain rfl := someS h
    exact xexitn (st1 := ⟨ofL [(0, .str a0), (5, .slr 1005 0 r1005l10.length), (6, .int .i64 v6l10)], ofL [(1005, ⟨1, true, List.map PV.str r1005l10⟩)]⟩) (canon0 ⟨rfl, rfl, rfl, trivial⟩ ⟨rfl, trivial⟩ rfl rfl) ⟨rfl, rfl⟩
theorem sat_dn_cut (N : Nat) (a0 : List UInt8) (a1 : UInt8) (r : List (List UInt8)) (h : dn_cut N a0 a1 = some r) : Sat Tryd.prog 64 noRows [.str a0, eb a1] (.sl 1 (List.map PV.str r)) noRows := by
  refine xsat mixed Tryd.func64 k64_cf (rs := [.sl 1 (List.map PV.str r)]) rfl rfl ?_
  refine xseq ?_
  refine xreg ?_
  refine wpp rfl rfl ?_
  refine xseq ?_
  refine xreg ?_
  refine wpp rfl rfl ?_
  refine xseq ?_
  refine xreg ?_
  refine wpp rfl rfl ?_
  refine xseq ?_
  refine xseq ?_
  refine xreg ?_
  refine wpp rfl rfl ?_
  refine xblk ?_
  obtain ⟨y4, hy4, h⟩ := bindS h
  refine xloopU (st1 := ⟨ofL [(0, .str a0), (1, eb a1), (5, .slr 1005 0 ([].length)), (6, .int .i64 0), (7, .int .i64 0)], ofL [(1005, ⟨1, true, List.map PV.str []⟩)]⟩) (Norm.trans (nlrow 5 1005 1 true rfl rfl rfl) (canon0 ⟨rfl, rfl, rfl, rfl, rfl, trivial⟩ ⟨rfl, trivial⟩ rfl rfl)) (w_dn_cut_l10 N a0 a1 N _ _ hy4) ?_
  rintro e s ⟨rfl, rfl⟩
  refine xseq ?_
  refine xreg ?_
  refine wpp rfl rfl ?_
  refine wpp rfl rfl ?_
  refine wpp rfl rfl ?_
  obtain ⟨x36, hx36, h⟩ := bindS h
  refine wpp rfl (p_drop hx36 rfl rfl) ?_
  refine woo rfl (obsl 37 rfl rfl rfl) ?_
  obtain ⟨x38, hx38, h⟩ := bindS h
  refine wapp (f := PV.str) 38 hx38 rfl rfl rfl rfl rfl (el_row rfl (full_row (f := PV.str) (l := [x36]))) rfl rfl rfl rfl ?_
  refine wpp rfl rfl ?_
  obtain rfl := someS h
  refine xretn (st1 := ⟨ofL [(4, .sl 1 (List.map PV.str x38))], ofL []⟩) (Norm.trans (Vd.freeze 38 _ rfl rfl rfl) (Norm.trans (nsub 4 (sub_eq (congrArg (PV.sl 1) (full_row (f := PV.str) (l := x38)))) rfl) (canon0 ⟨rfl, trivial⟩ trivial rfl rfl))) ?_
  exact ⟨nofun, rfl, rfl⟩
end Go.Gp
end
section
set_option linter.unusedVariables false
set_option linter.unusedSimpArgs false
set_option maxRecDepth 4000
namespace Go.Gp
open Go.Vd Go.RowKit Go.Proofs
def k102 : IC := (.seq (.reg [⟨(some 4), (.mov (.c (.str []))), none⟩, ⟨(some 5), (.mov (.c (.str []))), none⟩, ⟨(some 6), (.mov (.c (.bool false))), none⟩]) (.seq (.seq (.reg [⟨(some 8), (.mov (.t 0)), none⟩, ⟨(some 9), (.mov (.t 1)), none⟩, ⟨(some 10), (.call 92 [(.t 8), (.t 9)]), none⟩, ⟨(some 7), (.mov (.t 10)), none⟩]) (.seq (.reg [⟨(some 11), (.mov (.t 7)), none⟩, ⟨(some 12), (.bin .geq (.t 11) (.c (.int .i64 0))), none⟩]) (.cond (.t 12) (.seq (.regd 12 [⟨(some 13), (.mov (.t 0)), none⟩, ⟨(some 14), (.mov (.t 7)), none⟩, ⟨(some 15), (.slcs (.t 13) none (some (.t 14))), none⟩, ⟨(some 16), (.mov (.t 0)), none⟩, ⟨(some 17), (.mov (.t 7)), none⟩, ⟨(some 18), (.mov (.t 1)), none⟩, ⟨(some 19), (.len true (.t 18)), none⟩, ⟨(some 20), (.bin .add (.t 17) (.t 19)), none⟩, ⟨(some 21), (.slcs (.t 16) (some (.t 20)) none), none⟩, ⟨(some 4), (.mov (.t 15)), none⟩, ⟨(some 5), (.mov (.t 21)), none⟩, ⟨(some 6), (.mov (.c (.bool true))), none⟩]) .ret) .skip))) (.seq (.reg [⟨(some 22), (.mov (.t 0)), none⟩, ⟨(some 4), (.mov (.t 22)), none⟩, ⟨(some 5), (.mov (.c (.str []))), none⟩, ⟨(some 6), (.mov (.c (.bool false))), none⟩]) .ret)))
theorem k102_cf : cfunc Tryd.prog Tryd.f102 = some ⟨23, k102, [(.tmp 4), (.tmp 5), (.tmp 6)]⟩ := by kernel_rfl
theorem sat_internal_stringslite_Cut (N : Nat) (a0 : List UInt8) (a1 : List UInt8) (r : List UInt8 × List UInt8 × Bool) (h : internal_stringslite_Cut N a0 a1 = some r) : Sat Tryd.prog 102 noRows [.str a0, .str a1] (.tup [.str r.1, .str r.2.1, .bool r.2.2]) noRows := by
  refine xsat mixed Tryd.func102 k102_cf (rs := [.str r.1, .str r.2.1, .bool r.2.2]) rfl rfl ?_
  refine xseq ?_
  refine xreg ?_
  refine wpp rfl rfl ?_
  refine wpp rfl rfl ?_
  refine wpp rfl rfl ?_
  refine xseq ?_
  refine xseq ?_
  refine xreg ?_
  refine wpp rfl rfl ?_
  refine wpp rfl rfl ?_
  obtain ⟨x10, hx10, h⟩ := bindS h
  refine woo rfl (ocal (sat_stringslite_Index N _ _ _ hx10) rfl (.cons sub_rfl (.cons sub_rfl .nil)) rfl rfl rfl) ?_
  refine wpp rfl rfl ?_
  refine xseq ?_
  refine xreg ?_
  refine wpp rfl rfl ?_
  refine wpp rfl rfl ?_
  rcases bifS h with ⟨c1, h⟩ | ⟨c1, h⟩
  · refine xcT rfl c1 ?_
    refine xseq ?_
    refine xregd ?_
    refine wdp rfl rfl ?_
    refine wdp rfl rfl ?_
    obtain ⟨x15, hx15, h⟩ := bindS h
    refine wdp rfl (p_take hx15 rfl rfl) ?_
    refine wdp rfl rfl ?_
    refine wdp rfl rfl ?_
    refine wdp rfl rfl ?_
    refine wdp rfl rfl ?_
    refine wdp (p := .int .i64 (w64 (x10 + (a1.length : Int)))) rfl rfl ?_
    obtain ⟨x21, hx21, h⟩ := bindS h
    refine wdp rfl (p_drop hx21 rfl rfl) ?_
    refine wdp rfl rfl ?_
    refine wdp rfl rfl ?_
    refine wdp rfl rfl ?_
    obtain rfl := someS h
    refine xret ?_
    exact ⟨nofun, rfl, rfl⟩
  · refine xcF rfl c1 ?_
    refine xskip ?_
    refine xseq ?_
    refine xreg ?_
    refine wpp rfl rfl ?_
    refine wpp rfl rfl ?_
    refine wpp rfl rfl ?_
    refine wpp rfl rfl ?_
    obtain rfl := someS h
    refine xret ?_
    exact ⟨nofun, rfl, rfl⟩
end Go.Gp
end
section
set_option linter.unusedVariables false
set_option linter.unusedSimpArgs false
set_option maxRecDepth 4000
namespace Go.Gp
open Go.Vd Go.RowKit Go.Proofs
def k83 : IC := (.seq (.reg [⟨(some 4), (.mov (.c (.str []))), none⟩, ⟨(some 5), (.mov (.c (.str []))), none⟩, ⟨(some 6), (.mov (.c (.bool false))), none⟩]) (.seq (.reg [⟨(some 7), (.mov (.t 0)), none⟩, ⟨(some 8), (.mov (.t 1)), none⟩, ⟨(some 9), (.call 102 [(.t 7), (.t 8)]), none⟩, ⟨(some 10), (.ext 0 (.t 9)), none⟩, ⟨(some 11), (.ext 1 (.t 9)), none⟩, ⟨(some 12), (.ext 2 (.t 9)), none⟩, ⟨(some 4), (.mov (.t 10)), none⟩, ⟨(some 5), (.mov (.t 11)), none⟩, ⟨(some 6), (.mov (.t 12)), none⟩]) .ret))
theorem k83_cf : cfunc Tryd.prog Tryd.f83 = some ⟨13, k83, [(.tmp 4), (.tmp 5), (.tmp 6)]⟩ := by kernel_rfl
theorem sat_strings_Cut (N : Nat) (a0 : List UInt8) (a1 : List UInt8) (r : List UInt8 × List UInt8 × Bool) (h : strings_Cut N a0 a1 = some r) : Sat Tryd.prog 83 noRows [.str a0, .str a1] (.tup [.str r.1, .str r.2.1, .bool r.2.2]) noRows := by
  refine xsat mixed Tryd.func83 k83_cf (rs := [.str r.1, .str r.2.1, .bool r.2.2]) rfl rfl ?_
  refine xseq ?_
  refine xreg ?_
  refine wpp rfl rfl ?_
  refine wpp rfl rfl ?_
  refine wpp rfl rfl ?_
  refine xseq ?_
  refine xreg ?_
  refine wpp rfl rfl ?_
  refine wpp rfl rfl ?_
  obtain ⟨x9, hx9, h⟩ := bindS h
  refine woo rfl (ocal (sat_internal_stringslite_Cut N _ _ _ hx9) rfl (.cons sub_rfl (.cons sub_rfl .nil)) rfl rfl rfl) ?_
  refine wpp rfl rfl ?_
  refine wpp rfl rfl ?_
  refine wpp rfl rfl ?_
  refine wpp rfl rfl ?_
  refine wpp rfl rfl ?_
  refine wpp rfl rfl ?_
  obtain rfl := someS h
  refine xret ?_
  exact ⟨nofun, rfl, rfl⟩
end Go.Gp
end
section
set_option linter.unusedVariables false
set_option linter.unusedSimpArgs false
set_option maxRecDepth 4000
namespace Go.Gp
open Go.Vd Go.RowKit Go.Proofs
def k103 : IC := (.seq (.reg [⟨(some 4), (.mov (.c (.bool false))), none⟩]) (.seq (.reg [⟨(some 5), (.mov (.t 0)), none⟩, ⟨(some 6), (.mov (.t 1)), none⟩, ⟨(some 7), (.call 68 [(.t 5), (.t 6)]), none⟩, ⟨(some 4), (.mov (.t 7)), none⟩]) .ret))
theorem k103_cf : cfunc Tryd.prog Tryd.f103 = some ⟨8, k103, [(.tmp 4)]⟩ := by kernel_rfl
theorem sat_strings_HasPrefix (N : Nat) (a0 : List UInt8) (a1 : List UInt8) (r : Bool) (h : strings_HasPrefix N a0 a1 = some r) : Sat Tryd.prog 103 noRows [.str a0, .str a1] (.bool r) noRows := by
  refine xsat mixed Tryd.func103 k103_cf (rs := [.bool r]) rfl rfl ?_
  refine xseq ?_
  refine xreg ?_
  refine wpp rfl rfl ?_
  refine xseq ?_
  refine xreg ?_
  refine wpp rfl rfl ?_
  refine wpp rfl rfl ?_
  obtain ⟨x7, hx7, h⟩ := bindS h
  refine woo rfl (ocal (sat_internal_stringslite_HasPrefix N _ _ _ hx7) rfl (.cons sub_rfl (.cons sub_rfl .nil)) rfl rfl rfl) ?_
  refine wpp rfl rfl ?_
  obtain rfl := someS h
  refine xret ?_
  exact ⟨nofun, rfl, rfl⟩
end Go.Gp
end
section
set_option linter.unusedVariables false
set_option linter.unusedSimpArgs false
set_option maxRecDepth 4000
namespace Go.Gp
open Go.Vd Go.RowKit Go.Proofs
def k104 : IC := (.seq (.reg [⟨(some 4), (.mov (.c (.int .u8 0))), none⟩, ⟨(some 5), (.mov (.c (.bool false))), none⟩]) (.seq (.seq (.reg [⟨(some 7), (.mov (.t 1)), none⟩, ⟨(some 8), (.mov (.t 0)), none⟩, ⟨(some 9), (.len true (.t 8)), none⟩, ⟨(some 10), (.bin .geq (.t 7) (.t 9)), none⟩]) (.cond (.t 10) (.seq (.reg [⟨(some 4), (.mov (.c (.int .u8 0))), none⟩, ⟨(some 5), (.mov (.c (.bool false))), none⟩]) .ret) .skip)) (.seq (.reg [⟨(some 11), (.mov (.t 0)), none⟩, ⟨(some 12), (.mov (.t 1)), none⟩, ⟨(some 13), (.mov (.t 1)), none⟩, ⟨(some 14), (.bin .add (.t 13) (.c (.int .i64 1))), none⟩, ⟨(some 15), (.slcs (.t 11) (some (.t 12)) (some (.t 14))), none⟩, ⟨(some 16), (.call 28 [(.t 15)]), none⟩, ⟨(some 17), (.idxs (.t 16) (.c (.int .i64 0))), none⟩, ⟨(some 18), (.call 51 [(.c (.str [48, 49, 50, 51, 52, 53, 54, 55, 56, 57, 97, 98, 99, 100, 101, 102])), (.t 17)]), none⟩, ⟨(some 6), (.mov (.t 18)), none⟩]) (.seq (.reg [⟨(some 19), (.mov (.t 6)), none⟩, ⟨(some 20), (.mm true (.t 19) [(.c (.int .i64 0))]), none⟩, ⟨(some 21), (.cvi .u8 (.t 20)), none⟩, ⟨(some 22), (.mov (.t 6)), none⟩, ⟨(some 23), (.bin .geq (.t 22) (.c (.int .i64 0))), none⟩, ⟨(some 4), (.mov (.t 21)), none⟩, ⟨(some 5), (.mov (.t 23)), none⟩]) .ret))))
theorem k104_cf : cfunc Tryd.prog Tryd.f104 = some ⟨24, k104, [(.tmp 4), (.tmp 5)]⟩ := by kernel_rfl
theorem sat_dn_digit (N : Nat) (a0 : List UInt8) (a1 : Int) (r : UInt8 × Bool) (h : dn_digit N a0 a1 = some r) : Sat Tryd.prog 104 noRows [.str a0, .int .i64 a1] (.tup [eb r.1, .bool r.2]) noRows := by
  refine xsat mixed Tryd.func104 k104_cf (rs := [eb r.1, .bool r.2]) rfl rfl ?_
  refine xseq ?_
  refine xreg ?_
  refine wpp rfl rfl ?_
  refine wpp rfl rfl ?_
  refine xseq ?_
  refine xseq ?_
  refine xreg ?_
  refine wpp rfl rfl ?_
  refine wpp rfl rfl ?_
  refine wpp rfl rfl ?_
  refine wpp rfl rfl ?_
  rcases bifS h with ⟨c1, h⟩ | ⟨c1, h⟩
  · refine xcT rfl c1 ?_
    refine xseq ?_
    refine xreg ?_
    refine wpp rfl rfl ?_
    refine wpp rfl rfl ?_
    obtain rfl := someS h
    refine xret ?_
    exact ⟨nofun, rfl, rfl⟩
  · refine xcF rfl c1 ?_
    refine xskip ?_
    refine xseq ?_
    refine xreg ?_
    refine wpp rfl rfl ?_
    refine wpp rfl rfl ?_
    refine wpp rfl rfl ?_
    refine wpp (p := .int .i64 (w64 (a1 + (1 : Int)))) rfl rfl ?_
    obtain ⟨x15, hx15, h⟩ := bindS h
    refine wpp rfl (p_cut hx15 rfl rfl rfl) ?_
    obtain ⟨x16, hx16, h⟩ := bindS h
    refine woo rfl (ocal (sat_dn_Lower N _ _ hx16) rfl (.cons sub_rfl .nil) rfl rfl rfl) ?_
    obtain ⟨x17, hx17, h⟩ := bindS h
    refine wpp rfl (p_idx hx17 rfl rfl) ?_
    obtain ⟨x18, hx18, h⟩ := bindS h
    refine woo rfl (ocal (sat_strings_IndexByte N _ _ _ hx18) rfl (.cons sub_rfl (.cons sub_rfl .nil)) rfl rfl rfl) ?_
    refine wpp rfl rfl ?_
    refine xseq ?_
    refine xreg ?_
    refine wpp rfl rfl ?_
    refine wpp (p := .int .i64 (mx x18 (0 : Int))) rfl rfl ?_
    refine wpp rfl (p_cvu8 rfl) ?_
    refine wpp rfl rfl ?_
    refine wpp rfl rfl ?_
    refine wpp rfl rfl ?_
    refine wpp rfl rfl ?_
    obtain rfl := someS h
    refine xret ?_
    exact ⟨nofun, rfl, rfl⟩
end Go.Gp
end
