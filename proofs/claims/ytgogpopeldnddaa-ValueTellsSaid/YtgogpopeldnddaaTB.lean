import Derived.Test.YtgogpopeldnddaaTA
set_option linter.unusedVariables false
set_option linter.unusedSimpArgs false
namespace Go.Proofs.TR1
open Go.Vd Go.RowKit
def l8_0 : IC := (.seq (.reg [⟨(some 24), (.bin .lss (.t 23) (.t 22)), none⟩]) (.seq (.cond (.t 24) .skip (.exit 4)) (.seq (.block 5 (.seq (.reg [⟨(some 25), (.ixp 1 (.t 21) (.t 23)), none⟩, ⟨(some 26), (.load 1 false (.t 25)), none⟩, ⟨(some 6), (.mov (.t 26)), none⟩]) (.reg [⟨(some 27), (.mov (.t 4)), none⟩, ⟨(some 28), (.bin .shl (.t 27) (.c (.int .u64 8))), none⟩, ⟨(some 29), (.mov (.t 6)), none⟩, ⟨(some 30), (.cvi .i64 (.t 29)), none⟩, ⟨(some 31), (.bin .or (.t 28) (.t 30)), none⟩, ⟨(some 4), (.mov (.t 31)), none⟩]))) (.reg [⟨(some 32), (.bin .add (.t 23) (.c (.int .i64 1))), none⟩, ⟨(some 23), (.mov (.t 32)), none⟩]))))
def k8 : IC := (.seq (.reg [⟨(some 2), (.mov (.c (.int .i64 0))), none⟩, ⟨(some 3), (.mov (.c (.bool false))), none⟩]) (.seq (.reg [⟨(some 4), (.mov (.c (.int .i64 0))), none⟩]) (.seq (.block 0 (.seq (.mark (.block 3 (.seq (.block 2 (.seq (.block 1 (.seq (.seq (.seq (.reg [⟨(some 8), (.mov (.t 0)), none⟩, ⟨(some 9), (.bin .eql (.t 8) (.c (.str []))), none⟩, ⟨(some 10), (.mov (.t 9)), none⟩, ⟨(some 11), (.mov (.t 0)), (some (10, false))⟩, ⟨(some 12), (.len true (.t 11)), (some (10, false))⟩, ⟨(some 13), (.bin .gtr (.t 12) (.c (.int .i64 8))), (some (10, false))⟩, ⟨(some 14), (.pick (.t 10) (.c (.bool true)) (.t 13)), none⟩, ⟨(some 7), (.mov (.t 14)), none⟩]) (.cond (.t 7) (.exit 1) .skip)) (.seq (.reg [⟨(some 16), (.mov (.t 0)), none⟩, ⟨(some 17), (.idxs (.t 16) (.c (.int .i64 0))), none⟩, ⟨(some 18), (.bin .and (.t 17) (.c (.int .u8 128))), none⟩, ⟨(some 19), (.bin .neq (.t 18) (.c (.int .u8 0))), none⟩, ⟨(some 15), (.mov (.t 19)), none⟩]) (.cond (.t 15) (.exit 2) .skip))) (.exit 3))) (.seq (.seq (.reg [⟨(some 2), (.mov (.c (.int .i64 0))), none⟩, ⟨(some 3), (.mov (.c (.bool false))), none⟩]) .ret) (.exit 0)))) (.reg [⟨(some 4), (.mov (.c (.int .i64 (-1)))), none⟩])))) (.seq (.seq (.reg [⟨(some 20), (.mov (.t 0)), none⟩, ⟨(some 21), (.cvs (.t 20)), none⟩, ⟨(some 22), (.len false (.t 21)), none⟩, ⟨(some 23), (.mov (.c (.int .i64 0))), none⟩]) (.block 4 (.loop l8_0))) (.exit 0)))) (.seq (.seq (.reg [⟨(some 33), (.mov (.t 4)), none⟩, ⟨(some 34), (.call 7 [(.t 33)]), none⟩, ⟨(some 35), (.mov (.t 0)), none⟩, ⟨(some 36), (.bin .neq (.t 34) (.t 35)), none⟩]) (.cond (.t 36) (.seq (.reg [⟨(some 2), (.mov (.c (.int .i64 0))), none⟩, ⟨(some 3), (.mov (.c (.bool false))), none⟩]) .ret) .skip)) (.seq (.reg [⟨(some 37), (.mov (.t 4)), none⟩, ⟨(some 2), (.mov (.t 37)), none⟩, ⟨(some 3), (.mov (.c (.bool true))), none⟩]) .ret)))))
theorem c8 : cfunc Try.prog Try.f8 = some ⟨38, k8.un, [(.tmp 2), (.tmp 3)]⟩ := by kernel_rfl
def k10 : IC := (.seq (.reg [⟨(some 2), (.mov (.c (.bool false))), none⟩, ⟨(some 3), (.mov (.c (.bool false))), none⟩]) (.seq (.reg [⟨(some 4), (.mov (.t 0)), none⟩, ⟨(some 5), (.len true (.t 4)), none⟩, ⟨(some 6), (.bin .eql (.t 5) (.c (.int .i64 1))), none⟩, ⟨(some 7), (.mov (.t 6)), none⟩, ⟨(some 8), (.mov (.t 0)), (some (7, true))⟩, ⟨(some 9), (.idxs (.t 8) (.c (.int .i64 0))), (some (7, true))⟩, ⟨(some 10), (.bin .neq (.t 9) (.c (.int .u8 0))), (some (7, true))⟩, ⟨(some 11), (.pick (.t 7) (.t 10) (.c (.bool false))), none⟩, ⟨(some 12), (.mov (.t 0)), none⟩, ⟨(some 13), (.len true (.t 12)), none⟩, ⟨(some 14), (.bin .eql (.t 13) (.c (.int .i64 1))), none⟩, ⟨(some 2), (.mov (.t 11)), none⟩, ⟨(some 3), (.mov (.t 14)), none⟩]) .ret))
theorem c10 : cfunc Try.prog Try.f10 = some ⟨15, k10.un, [(.tmp 2), (.tmp 3)]⟩ := by kernel_rfl
def k13 : IC := (.seq (.reg [⟨(some 2), (.mov (.c (.str []))), none⟩]) (.seq (.seq (.reg [⟨(some 3), (.mov (.t 0)), none⟩]) (.cond (.t 3) (.seq (.reg [⟨(some 4), (.bsl 1 [(.c (.int .u8 255))]), none⟩, ⟨(some 5), (.cvb (.t 4)), none⟩, ⟨(some 2), (.mov (.t 5)), none⟩]) .ret) .skip)) (.seq (.reg [⟨(some 2), (.mov (.c (.str [0]))), none⟩]) .ret)))
theorem c13 : cfunc Try.prog Try.f13 = some ⟨6, k13.un, [(.tmp 2)]⟩ := by kernel_rfl
def l15_0 : IC := (.seq (.seq (.reg [⟨(some 27), (.mov (.t 5)), none⟩, ⟨(some 28), (.fda 2 (.t 2)), none⟩, ⟨(some 29), (.load 1 false (.t 28)), none⟩, ⟨(some 30), (.len false (.t 29)), none⟩, ⟨(some 31), (.bin .lss (.t 27) (.t 30)), none⟩]) (.cond (.t 31) .skip (.exit 0))) (.seq (.block 1 (.seq (.regd 12 [⟨(some 34), (.fda 2 (.t 2)), none⟩, ⟨(some 35), (.load 1 false (.t 34)), none⟩, ⟨(some 36), (.mov (.t 5)), none⟩, ⟨(some 37), (.ixp 3 (.t 35) (.t 36)), none⟩, ⟨(some 38), (.load 3 true (.t 37)), none⟩, ⟨(some 39), (.fda 2 (.t 3)), none⟩, ⟨(some 40), (.load 1 false (.t 39)), none⟩, ⟨(some 41), (.mov (.t 5)), none⟩, ⟨(some 42), (.ixp 3 (.t 40) (.t 41)), none⟩, ⟨(some 43), (.load 3 true (.t 42)), none⟩, ⟨(some 44), (.call 15 [(.t 38), (.t 43)]), none⟩, ⟨(some 45), (.un .not (.t 44)), none⟩]) (.cond (.t 45) (.seq (.reg [⟨(some 4), (.mov (.c (.bool false))), none⟩]) .ret) .skip))) (.reg [⟨(some 32), (.mov (.t 5)), none⟩, ⟨(some 33), (.bin .add (.t 32) (.c (.int .i64 1))), none⟩, ⟨(some 5), (.mov (.t 33)), none⟩])))
def k15 : IC := (.seq (.reg [⟨(some 2), (.box (.t 0)), none⟩, ⟨(some 3), (.box (.t 1)), none⟩, ⟨(some 4), (.mov (.c (.bool false))), none⟩]) (.seq (.seq (.reg [⟨(some 6), (.fda 0 (.t 2)), none⟩, ⟨(some 7), (.load 1 false (.t 6)), none⟩, ⟨(some 8), (.fda 0 (.t 3)), none⟩, ⟨(some 9), (.load 1 false (.t 8)), none⟩, ⟨(some 10), (.bin .neq (.t 7) (.t 9)), none⟩, ⟨(some 11), (.mov (.t 10)), none⟩, ⟨(some 12), (.fda 1 (.t 2)), (some (11, false))⟩, ⟨(some 13), (.load 1 false (.t 12)), (some (11, false))⟩, ⟨(some 14), (.fda 1 (.t 3)), (some (11, false))⟩, ⟨(some 15), (.load 1 false (.t 14)), (some (11, false))⟩, ⟨(some 16), (.bin .neq (.t 13) (.t 15)), (some (11, false))⟩, ⟨(some 17), (.pick (.t 11) (.c (.bool true)) (.t 16)), none⟩, ⟨(some 18), (.mov (.t 17)), none⟩, ⟨(some 19), (.fda 2 (.t 2)), (some (18, false))⟩, ⟨(some 20), (.load 1 false (.t 19)), (some (18, false))⟩, ⟨(some 21), (.len false (.t 20)), (some (18, false))⟩, ⟨(some 22), (.fda 2 (.t 3)), (some (18, false))⟩, ⟨(some 23), (.load 1 false (.t 22)), (some (18, false))⟩, ⟨(some 24), (.len false (.t 23)), (some (18, false))⟩, ⟨(some 25), (.bin .neq (.t 21) (.t 24)), (some (18, false))⟩, ⟨(some 26), (.pick (.t 18) (.c (.bool true)) (.t 25)), none⟩]) (.cond (.t 26) (.seq (.reg [⟨(some 4), (.mov (.c (.bool false))), none⟩]) .ret) .skip)) (.seq (.seq (.reg [⟨(some 5), (.mov (.c (.int .i64 0))), none⟩]) (.block 0 (.loop l15_0))) (.seq (.reg [⟨(some 4), (.mov (.c (.bool true))), none⟩]) .ret))))
theorem c15 : cfunc Try.prog Try.f15 = some ⟨46, k15.un, [(.tmp 4)]⟩ := by kernel_rfl
def k16 : IC := (.seq (.reg [⟨(some 4), (.box (.c (.agg [(.int .u8 0), (.str []), .nl]))), none⟩]) (.seq (.reg [⟨(some 5), (.mov (.t 0)), none⟩, ⟨(some 6), (.mov (.t 1)), none⟩, ⟨(some 7), (.build [(.int .u8 0), (.str []), .nl] [(0, (1, (.t 5))), (1, (1, (.t 6)))]), none⟩, ⟨none, (.store 3 (.t 4) (.t 7)), none⟩]) .ret))
theorem c16 : cfunc Try.prog Try.f16 = some ⟨8, k16.un, [(.cell 3 true 4)]⟩ := by kernel_rfl
def k17 : IC := (.seq (.reg [⟨(some 4), (.box (.c (.agg [(.int .u8 0), (.str []), .nl]))), none⟩]) (.seq (.reg [⟨(some 5), (.mov (.t 0)), none⟩, ⟨(some 6), (.mov (.t 1)), none⟩, ⟨(some 7), (.call 7 [(.t 6)]), none⟩, ⟨(some 8), (.call 16 [(.t 5), (.t 7)]), none⟩, ⟨none, (.store 3 (.t 4) (.t 8)), none⟩]) .ret))
theorem c17 : cfunc Try.prog Try.f17 = some ⟨9, k17.un, [(.cell 3 true 4)]⟩ := by kernel_rfl
def k6 : IC := (.seq (.reg [⟨(some 0), (.mov (.c (.bool false))), none⟩]) (.seq (.reg [⟨(some 10), (.call 8 [(.c (.str [0, 128]))]), none⟩, ⟨(some 9), (.mov (.t 10)), none⟩, ⟨(some 11), (.ext 0 (.t 9)), none⟩, ⟨(some 12), (.ext 1 (.t 9)), none⟩, ⟨(some 1), (.mov (.t 11)), none⟩, ⟨(some 2), (.mov (.t 12)), none⟩]) (.seq (.reg [⟨(some 14), (.call 8 [(.c (.str [0, 1]))]), none⟩, ⟨(some 13), (.mov (.t 14)), none⟩, ⟨(some 15), (.ext 0 (.t 13)), none⟩, ⟨(some 16), (.ext 1 (.t 13)), none⟩, ⟨(some 3), (.mov (.t 15)), none⟩, ⟨(some 4), (.mov (.t 16)), none⟩]) (.seq (.reg [⟨(some 18), (.call 10 [(.c (.str [5]))]), none⟩, ⟨(some 17), (.mov (.t 18)), none⟩, ⟨(some 19), (.ext 0 (.t 17)), none⟩, ⟨(some 20), (.ext 1 (.t 17)), none⟩, ⟨(some 5), (.mov (.t 19)), none⟩, ⟨(some 6), (.mov (.t 20)), none⟩]) (.seq (.reg [⟨(some 22), (.call 10 [(.c (.str []))]), none⟩, ⟨(some 21), (.mov (.t 22)), none⟩, ⟨(some 23), (.ext 0 (.t 21)), none⟩, ⟨(some 24), (.ext 1 (.t 21)), none⟩, ⟨(some 7), (.mov (.t 23)), none⟩, ⟨(some 8), (.mov (.t 24)), none⟩]) (.seq (.reg [⟨(some 25), (.call 7 [(.c (.int .i64 128))]), none⟩, ⟨(some 26), (.bin .eql (.t 25) (.c (.str [0, 128]))), none⟩, ⟨(some 27), (.mov (.t 26)), none⟩, ⟨(some 28), (.call 7 [(.c (.int .i64 (-1)))]), (some (27, true))⟩, ⟨(some 29), (.bin .eql (.t 28) (.c (.str [255]))), (some (27, true))⟩, ⟨(some 30), (.pick (.t 27) (.t 29) (.c (.bool false))), none⟩, ⟨(some 31), (.mov (.t 30)), none⟩, ⟨(some 32), (.mov (.t 2)), (some (31, true))⟩, ⟨(some 33), (.pick (.t 31) (.t 32) (.c (.bool false))), none⟩, ⟨(some 34), (.mov (.t 33)), none⟩, ⟨(some 35), (.mov (.t 1)), (some (34, true))⟩, ⟨(some 36), (.bin .eql (.t 35) (.c (.int .i64 128))), (some (34, true))⟩, ⟨(some 37), (.pick (.t 34) (.t 36) (.c (.bool false))), none⟩, ⟨(some 38), (.mov (.t 37)), none⟩, ⟨(some 39), (.mov (.t 4)), (some (38, true))⟩, ⟨(some 40), (.un .not (.t 39)), (some (38, true))⟩, ⟨(some 41), (.pick (.t 38) (.t 40) (.c (.bool false))), none⟩, ⟨(some 42), (.mov (.t 41)), none⟩, ⟨(some 43), (.call 13 [(.c (.bool true))]), (some (42, true))⟩, ⟨(some 44), (.bin .eql (.t 43) (.c (.str [255]))), (some (42, true))⟩, ⟨(some 45), (.pick (.t 42) (.t 44) (.c (.bool false))), none⟩, ⟨(some 46), (.mov (.t 45)), none⟩, ⟨(some 47), (.mov (.t 6)), (some (46, true))⟩, ⟨(some 48), (.pick (.t 46) (.t 47) (.c (.bool false))), none⟩, ⟨(some 49), (.mov (.t 48)), none⟩, ⟨(some 50), (.mov (.t 5)), (some (49, true))⟩, ⟨(some 51), (.pick (.t 49) (.t 50) (.c (.bool false))), none⟩, ⟨(some 52), (.mov (.t 51)), none⟩, ⟨(some 53), (.mov (.t 8)), (some (52, true))⟩, ⟨(some 54), (.un .not (.t 53)), (some (52, true))⟩, ⟨(some 55), (.pick (.t 52) (.t 54) (.c (.bool false))), none⟩, ⟨(some 56), (.mov (.t 55)), none⟩, ⟨(some 57), (.call 17 [(.c (.int .u8 2)), (.c (.int .i64 5))]), (some (56, true))⟩, ⟨(some 58), (.build [(.int .u8 0), (.str []), .nl] [(0, (1, (.c (.int .u8 2)))), (1, (1, (.c (.str [5]))))]), (some (56, true))⟩, ⟨(some 59), (.call 15 [(.t 57), (.t 58)]), (some (56, true))⟩, ⟨(some 60), (.pick (.t 56) (.t 59) (.c (.bool false))), none⟩, ⟨(some 61), (.mov (.t 60)), none⟩, ⟨(some 62), (.call 16 [(.c (.int .u8 4)), (.c (.str [97]))]), (some (61, true))⟩, ⟨(some 63), (.build [(.int .u8 0), (.str []), .nl] [(0, (1, (.c (.int .u8 4)))), (1, (1, (.c (.str [97]))))]), (some (61, true))⟩, ⟨(some 64), (.call 15 [(.t 62), (.t 63)]), (some (61, true))⟩, ⟨(some 65), (.pick (.t 61) (.t 64) (.c (.bool false))), none⟩, ⟨(some 0), (.mov (.t 65)), none⟩]) .ret))))))
theorem c6 : cfunc Try.prog Try.f6 = some ⟨66, k6.un, [(.tmp 0)]⟩ := by kernel_rfl
theorem sat13 (b : Bool) : Sat Try.prog 13 noRows [.bool b] (.str (if b = true then [255] else [0])) noRows := by
  refine sat_plain mixed Try.func13 c13 (rs := [_]) rfl rfl ?_
  refine wo (opop rfl) <| wo (opop rfl) ?_
  refine wcond rfl (fun c3 => ?_) (fun c3 => ?_)
  · skip
    refine wo (obsl 4 rfl rfl rfl) <| wo (opop rfl) <| wo (opop rfl) ?_
    exact ⟨nofun, vsl (by rw [if_pos c3]; rfl), rfl⟩
  · skip
    refine wo (opop rfl) ?_
    exact ⟨nofun, vsl (by rw [c3]; rfl), rfl⟩

theorem sat10_0 : Sat Try.prog 10 noRows [.str []] (.tup [.bool false, .bool false]) noRows := by
  refine sat_plain mixed Try.func10 c10 (rs := [_, _]) rfl rfl ?_
  refine wo (opop rfl) <| wo (opop rfl) <| wo (opop rfl) <| wo (opop rfl) <| wo (opop rfl) <| wo (opop rfl) <| wps rfl <| wps rfl <| wps rfl <| wo (opop rfl) <| wo (opop rfl) <| wo (opop rfl) <| wo (opop rfl) <| wo (opop rfl) <| wo (opop rfl) ?_
  exact ⟨nofun, rfl, rfl⟩

theorem sat10_1 (x : UInt8) : Sat Try.prog 10 noRows [.str [x]] (.tup [.bool ((x.toNat : Int) != 0), .bool true]) noRows := by
  refine sat_plain mixed Try.func10 c10 (rs := [_, _]) rfl rfl ?_
  refine wo (opop rfl) <| wo (opop rfl) <| wo (opop rfl) <| wo (opop rfl) <| wo (opop rfl) <| wo (opop rfl) <| wog rfl (opop rfl) <| wog rfl (opop rfl) <| wog rfl (opop rfl) <| wo (opop rfl) <| wo (opop rfl) <| wo (opop rfl) <| wo (opop rfl) <| wo (opop rfl) <| wo (opop rfl) ?_
  exact ⟨nofun, rfl, rfl⟩

theorem sat16 (tag : Int) (s : List UInt8) : Sat Try.prog 16 noRows [.int .u8 tag, .str s] (.agg [.int .u8 tag, .str s, .nl]) noRows := by
  refine sat_plain mixed Try.func16 c16 (rs := [_]) rfl rfl ?_
  refine wo (obox 4 rfl rfl rfl rfl) <| wo (opop rfl) <| wo (opop rfl) <| wo (opop rfl) <| wo (osto rfl rfl rfl rfl rfl rfl rfl rfl nofun) ?_
  exact ⟨nofun, rfl, rfl⟩

theorem sat17 (tag : Int) (n : Int) (h1 : -9223372036854775808 ≤ n) (h2 : n < 9223372036854775808) : Sat Try.prog 17 noRows [.int .u8 tag, .int .i64 n] (.agg [.int .u8 tag, .str (enc n), .nl]) noRows := by
  refine sat_plain mixed Try.func17 c17 (rs := [_]) rfl rfl ?_
  refine wo (obox 4 rfl rfl rfl rfl) <| wo (opop rfl) <| wo (opop rfl) <| wo (ocall rfl rfl (sat7 _ h1 h2) rfl rfl rfl) <| wo (ocall rfl rfl (sat16 _ _) rfl rfl rfl) <| wo (osto rfl rfl rfl rfl rfl rfl rfl rfl nofun) ?_
  exact ⟨nofun, rfl, rfl⟩

theorem sat15 (a b : Int) (s t : List UInt8) : Sat Try.prog 15 noRows [.agg [.int .u8 a, .str s, .nl], .agg [.int .u8 b, .str t, .nl]] (.bool (!(a != b || !(s == t)))) noRows := by
  refine sat_plain mixed Try.func15 c15 (rs := [_]) rfl rfl ?_
  refine wo (obox 2 rfl rfl rfl rfl) <| wo (obox 3 rfl rfl rfl rfl) <| wo (opop rfl) <| wo (opop rfl) <| wo (opop rfl) <| wo (opop rfl) <| wo (opop rfl) <| wo (opop rfl) <| wo (opop rfl) ?_
  refine wsplit 11 rfl (fun g11 => ?_) (fun g11 => ?_)
  · skip
    refine wps (gn rfl g11) <| wps (gn rfl g11) <| wps (gn rfl g11) <| wps (gn rfl g11) <| wps (gn rfl g11) <| wo (opick1 rfl g11 rfl) <| wo (opop rfl) <| wps rfl <| wps rfl <| wps rfl <| wps rfl <| wps rfl <| wps rfl <| wps rfl <| wo (opop rfl) ?_
    refine wcond rfl (fun _ => ?_) nofun
    refine wo (opop rfl) ?_
    exact ⟨nofun, vbl (by simp [g11]), rfl⟩
  · skip
    refine wog (gy rfl g11) (opop rfl) <| wog (gy rfl g11) (opop rfl) <| wog (gy rfl g11) (opop rfl) <| wog (gy rfl g11) (opop rfl) <| wog (gy rfl g11) (opop rfl) <| wo (opick0 rfl g11 rfl) <| wo (opop rfl) ?_
    refine wsplit 18 rfl (fun g18 => ?_) (fun g18 => ?_)
    · skip
      refine wps (gn rfl g18) <| wps (gn rfl g18) <| wps (gn rfl g18) <| wps (gn rfl g18) <| wps (gn rfl g18) <| wps (gn rfl g18) <| wps (gn rfl g18) <| wo (opick1 rfl g18 rfl) ?_
      refine wcond rfl (fun _ => ?_) nofun
      refine wo (opop rfl) ?_
      exact ⟨nofun, vbl (by simp [g18]), rfl⟩
    · skip
      refine wog (gy rfl g18) (opop rfl) <| wog (gy rfl g18) (opop rfl) <| wog (gy rfl g18) (opop rfl) <| wog (gy rfl g18) (opop rfl) <| wog (gy rfl g18) (opop rfl) <| wog (gy rfl g18) (opop rfl) <| wog (gy rfl g18) (opop rfl) <| wo (opick0 rfl g18 rfl) ?_
      refine wcond rfl nofun (fun _ => ?_)
      refine wo (opop rfl) ?_
      refine loop_round ?_
      refine wo (opop rfl) <| wo (opop rfl) <| wo (opop rfl) <| wo (opop rfl) <| wo (opop rfl) ?_
      refine wcond rfl nofun (fun _ => ?_)
      refine wo (opop rfl) ?_
      exact ⟨nofun, vbl (by rw [g11, g18]; rfl), rfl⟩

def rdStep (n : Int) (c : UInt8) : Int := IntKind.i64.wrap (n * 256) + (c.toNat : Int)
def rd (s : List UInt8) : Int := s.foldl rdStep (sgn (s.headD 0))

def S8 (s : List UInt8) (n : Int) (i : Nat) : St := ⟨ofL [(0, .str s), (4, .int .i64 n), (21, .slr 21 0 s.length), (22, .int .i64 (s.length : Int)), (23, .int .i64 (i : Int))], ofL [(21, ⟨1, true, bytesP s⟩)]⟩

theorem loop8 (s : List UInt8) (Q : Xt → St → Prop) : ∀ (m i : Nat) (n : Int), s.length = i + m → s.length ≤ 1000 → (∀ st, Norm (fun _ => false) st ⟨ofL [(0, .str s), (4, .int .i64 ((s.drop i).foldl rdStep n))], noRows⟩ → Q (.exit 4) st) →
    ∃ e st', Ex Try.prog (fun _ => false) (.loop l8_0.un) (S8 s n i) e st' ∧ Q e st' := by
  intro m
  induction m with
  | zero =>
    intro i n hi hs hQ
    refine loop_round ?_
    refine wo (opop rfl) ?_
    refine wcond rfl (fun c => absurd (of_decide_eq_true c) (by omega)) (fun c => ?_)
    refine hQ _ (canon0 (m := []) ⟨rfl, vi ?_, trivial⟩ trivial rfl rfl)
    rw [List.drop_of_length_le (by omega)]
    rfl
  | succ m ih =>
    intro i n hi hs hQ
    have hlt : i < s.length := by omega
    have hget : s[i]? = some (s[i]'hlt) := List.getElem?_eq_getElem hlt
    generalize s[i]'hlt = b at hget
    have hb := b.toNat_lt
    have hr := i64_range (n * 2 ^ 8)
    refine loop_round ?_
    refine wo (opop rfl) ?_
    refine wcond rfl (fun c => ?_) (fun c => absurd (of_decide_eq_false c) (by omega))
    refine wo (oixr (i := i) rfl rfl rfl rfl rfl hlt) <| wo (oldr (e := .int .u8 (b.toNat : Int)) rfl rfl (by rw [Nat.zero_add]; exact bytesP_get hget) rfl) <| wo (opop rfl) <| wo (opop rfl) <| wo (obin rfl rfl (binv_shl _ _ 8 (by decide))) <| wo (opop rfl) <| wo (ocvi rfl (i64_wrap (by omega) (by omega))) ?_
    refine wo (obin rfl rfl (binv_i64or hr.1 hr.2.1 (by omega) hb)) <| wo (opop rfl) <| wo (obin rfl rfl (binv_add (c := ((i + 1 : Nat) : Int)) (by omega) (by omega) (by omega))) <| wo (opop rfl) ?_
    refine loop_norm (st1 := S8 s (rdStep n b) (i + 1)) (canon0 ⟨rfl, rfl, rfl, rfl, rfl, trivial⟩ ⟨rfl, trivial⟩ rfl rfl) ?_
    refine ih (i + 1) _ (by omega) hs fun st hn => hQ st ?_
    have : s.drop i = b :: s.drop (i + 1) := by
      obtain ⟨h1, h2⟩ := List.getElem?_eq_some_iff.1 hget
      rw [← h2]
      exact List.drop_eq_getElem_cons h1
    rw [this]
    exact hn

def BadI (s : List UInt8) : Prop := s = [] ∨ 8 < s.length ∨ enc (rd s) ≠ s

theorem head_get {s : List UInt8} (h : s ≠ []) : s[0]? = some (s.headD 0) := by
  cases s with
  | nil => exact absurd rfl h
  | cons x r => rfl

theorem sat8 (s : List UInt8) (hs : s.length ≤ 1000) (rs : List PV) (hno : BadI s → rs = [.int .i64 0, .bool false]) (hyes : ¬ BadI s → rs = [.int .i64 (rd s), .bool true]) (hrd : -9223372036854775808 ≤ rd s ∧ rd s < 9223372036854775808) : Sat Try.prog 8 noRows [.str s] (resOf rs) noRows := by
  have bad : ∀ st : St, st.s 2 = some (.int .i64 0) → st.s 3 = some (.bool false) → BadI s → (∀ id, Xt.ret ≠ .exit id) ∧ gets st [.tmp 2, .tmp 3] = some rs ∧ PV.tks (fun _ => false) rs = true := by
    intro st h2 h3 hb
    rw [hno hb]
    exact ⟨nofun, by simp only [gets, IRes.get, h2, h3], rfl⟩
  refine sat_plain mixed Try.func8 c8 (rs := rs) rfl rfl ?_
  refine wo (opop rfl) <| wo (opop rfl) <| wo (opop rfl) ?_
  refine wjoinp (s ≠ [] ∧ s.length ≤ 8) ⟨ofL [(0, .str s), (4, .int .i64 (sgn (s.headD 0)))], noRows⟩ ?_ fun hj0 => ?_
  · skip
    refine wo (opop rfl) <| wo (opop rfl) <| wo (opop rfl) ?_
    refine wsplit 10 rfl (fun g10 => ?_) (fun g10 => ?_)
    · skip
      refine wps (gn rfl g10) <| wps (gn rfl g10) <| wps (gn rfl g10) <| wo (opick1 rfl g10 rfl) <| wo (opop rfl) ?_
      refine wcond rfl (fun _ => ?_) nofun
      refine wo (opop rfl) <| wo (opop rfl) ?_
      exact bad _ rfl rfl (.inl (by simpa using g10))
    · skip
      refine wog (gy rfl g10) (opop rfl) <| wog (gy rfl g10) (opop rfl) <| wog (gy rfl g10) (opop rfl) <| wo (opick0 rfl g10 rfl) <| wo (opop rfl) ?_
      refine wcond rfl (fun c7 => ?_) (fun c7 => ?_)
      · skip
        refine wo (opop rfl) <| wo (opop rfl) ?_
        exact bad _ rfl rfl (.inr (.inl (by have := of_decide_eq_true c7; omega)))
      · skip
        refine wo (opop rfl) <| wo (oidx (i := 0) rfl rfl rfl (head_get (by simpa using g10))) <| wo (obin rfl rfl (binv_u8and _ 128)) <| wo (opop rfl) <| wo (opop rfl) ?_
        refine wcond rfl (fun c15 => ?_) (fun c15 => ?_)
        · skip
          refine wo (opop rfl) ?_
          exact ⟨canon0 (m := []) ⟨rfl, vi (by rw [sgn, c15]; rfl), trivial⟩ trivial rfl rfl, by simpa using g10, by have := of_decide_eq_false c7; omega⟩
        · skip
          exact ⟨canon0 (m := []) ⟨rfl, vi (by rw [sgn, c15]; rfl), trivial⟩ trivial rfl rfl, by simpa using g10, by have := of_decide_eq_false c7; omega⟩
  refine wo (opop rfl) <| wo (ocvs 21 rfl rfl) <| wo (opop rfl) <| wo (opop rfl) ?_
  refine loop_norm (st1 := S8 s (sgn (s.headD 0)) 0) (canon0 ⟨rfl, rfl, rfl, rfl, rfl, trivial⟩ ⟨rfl, trivial⟩ rfl rfl) ?_
  refine loop8 s _ s.length 0 _ (by omega) hs fun st hn => ?_
  refine wn hn <| wo (opop rfl) <| wo (ocall rfl rfl (sat7 _ hrd.1 hrd.2) rfl rfl rfl) <| wo (opop rfl) <| wo (opop rfl) ?_
  refine wcond rfl (fun c36 => ?_) (fun c36 => ?_)
  · skip
    refine wo (opop rfl) <| wo (opop rfl) ?_
    exact bad _ rfl rfl (.inr (.inr (by have h : (!(enc (rd s) == s)) = true := c36; simpa using h)))
  · skip
    refine wo (opop rfl) <| wo (opop rfl) <| wo (opop rfl) ?_
    have hg : ¬ BadI s := fun hb => hb.elim hj0.1 fun hb => hb.elim (fun h => absurd h (by omega)) fun h => h (by have h : (!(enc (rd s) == s)) = false := c36; simpa using h)
    rw [hyes hg]
    exact ⟨nofun, rfl, rfl⟩
end Go.Proofs.TR1
