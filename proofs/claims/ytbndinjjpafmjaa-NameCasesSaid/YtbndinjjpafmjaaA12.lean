/- A part of the proof: functions of the program and what they compute. -/
import Derived.Test.YtbndinjjpafmjaaA6
import Derived.Test.YtbndinjjpafmjaaA11
import Derived.Test.YtbndinjjpafmjaaA9
import Derived.Test.YtbndinjjpafmjaaA8
section
set_option linter.unusedVariables false
set_option linter.unusedSimpArgs false
set_option maxRecDepth 4000
namespace Go.Gp
open Go.Vd Go.RowKit Go.Proofs
def k6 : IC := (.seq (.reg [⟨(some 6), (.mov (.c (.bool false))), none⟩]) (.seq (.seq (.reg [⟨(some 16), (.call 8 []), none⟩, ⟨(some 17), (.un .not (.t 16)), none⟩]) (.cond (.t 17) (.seq (.reg [⟨(some 6), (.mov (.c (.bool false))), none⟩]) .ret) .skip)) (.seq (.reg [⟨(some 18), (.mov (.t 0)), none⟩, ⟨(some 19), (.bin .rem (.t 18) (.c (.int .u8 26))), none⟩, ⟨(some 20), (.bin .add (.c (.int .u8 97)) (.t 19)), none⟩, ⟨(some 21), (.mov (.t 1)), none⟩, ⟨(some 22), (.bin .rem (.t 21) (.c (.int .u8 10))), none⟩, ⟨(some 23), (.bin .add (.c (.int .u8 48)) (.t 22)), none⟩, ⟨(some 24), (.bsl 1 [(.t 20), (.t 23), (.c (.int .u8 45))]), none⟩, ⟨(some 25), (.cvb (.t 24)), none⟩, ⟨(some 7), (.mov (.t 25)), none⟩]) (.seq (.reg [⟨(some 26), (.mov (.t 0)), none⟩, ⟨(some 27), (.bin .rem (.t 26) (.c (.int .u8 26))), none⟩, ⟨(some 28), (.bin .add (.c (.int .u8 65)) (.t 27)), none⟩, ⟨(some 29), (.mov (.t 1)), none⟩, ⟨(some 30), (.bin .rem (.t 29) (.c (.int .u8 10))), none⟩, ⟨(some 31), (.bin .add (.c (.int .u8 48)) (.t 30)), none⟩, ⟨(some 32), (.bsl 1 [(.t 28), (.t 31), (.c (.int .u8 45))]), none⟩, ⟨(some 33), (.cvb (.t 32)), none⟩, ⟨(some 8), (.mov (.t 33)), none⟩]) (.seq (.reg [⟨(some 34), (.mov (.t 2)), none⟩, ⟨(some 35), (.bin .rem (.t 34) (.c (.int .u8 26))), none⟩, ⟨(some 36), (.bin .add (.c (.int .u8 65)) (.t 35)), none⟩, ⟨(some 37), (.mov (.t 2)), none⟩, ⟨(some 38), (.bin .rem (.t 37) (.c (.int .u8 26))), none⟩, ⟨(some 39), (.bin .add (.c (.int .u8 97)) (.t 38)), none⟩, ⟨(some 40), (.bsl 1 [(.t 36), (.t 39)]), none⟩, ⟨(some 41), (.cvb (.t 40)), none⟩, ⟨(some 9), (.mov (.t 41)), none⟩]) (.seq (.reg [⟨(some 43), (.mov (.t 8)), none⟩, ⟨(some 44), (.bin .add (.t 43) (.c (.str [61]))), none⟩, ⟨(some 45), (.mov (.t 9)), none⟩, ⟨(some 46), (.bin .add (.t 44) (.t 45)), none⟩, ⟨(some 47), (.call 15 [(.t 46)]), none⟩, ⟨(some 42), (.mov (.t 47)), none⟩, ⟨(some 48), (.ext 0 (.t 42)), none⟩, ⟨(some 49), (.ext 1 (.t 42)), none⟩, ⟨(some 10), (.mov (.t 48)), none⟩, ⟨(some 11), (.mov (.t 49)), none⟩]) (.seq (.reg [⟨(some 51), (.mov (.t 7)), none⟩, ⟨(some 52), (.bin .add (.t 51) (.c (.str [61]))), none⟩, ⟨(some 53), (.mov (.t 9)), none⟩, ⟨(some 54), (.bin .add (.t 52) (.t 53)), none⟩, ⟨(some 55), (.bin .add (.t 54) (.c (.str [44]))), none⟩, ⟨(some 56), (.mov (.t 8)), none⟩, ⟨(some 57), (.bin .add (.t 55) (.t 56)), none⟩, ⟨(some 58), (.bin .add (.t 57) (.c (.str [61]))), none⟩, ⟨(some 59), (.mov (.t 9)), none⟩, ⟨(some 60), (.bin .add (.t 58) (.t 59)), none⟩, ⟨(some 61), (.call 15 [(.t 60)]), none⟩, ⟨(some 50), (.mov (.t 61)), none⟩, ⟨(some 62), (.ext 0 (.t 50)), none⟩, ⟨(some 63), (.ext 1 (.t 50)), none⟩, ⟨(some 12), (.mov (.t 62)), none⟩, ⟨(some 13), (.mov (.t 63)), none⟩]) (.seq (.reg [⟨(some 65), (.mov (.t 7)), none⟩, ⟨(some 66), (.bin .add (.t 65) (.c (.str [61]))), none⟩, ⟨(some 67), (.mov (.t 9)), none⟩, ⟨(some 68), (.bin .add (.t 66) (.t 67)), none⟩, ⟨(some 69), (.bin .add (.t 68) (.c (.str [43]))), none⟩, ⟨(some 70), (.mov (.t 8)), none⟩, ⟨(some 71), (.bin .add (.t 69) (.t 70)), none⟩, ⟨(some 72), (.bin .add (.t 71) (.c (.str [61]))), none⟩, ⟨(some 73), (.mov (.t 9)), none⟩, ⟨(some 74), (.bin .add (.t 72) (.t 73)), none⟩, ⟨(some 75), (.call 15 [(.t 74)]), none⟩, ⟨(some 64), (.mov (.t 75)), none⟩, ⟨(some 76), (.ext 0 (.t 64)), none⟩, ⟨(some 77), (.ext 1 (.t 64)), none⟩, ⟨(some 14), (.mov (.t 76)), none⟩, ⟨(some 15), (.mov (.t 77)), none⟩]) (.seq (.reg [⟨(some 78), (.mov (.t 11)), none⟩, ⟨(some 79), (.bin .eql (.t 78) (.c (.int .i64 0))), none⟩, ⟨(some 80), (.mov (.t 79)), none⟩, ⟨(some 81), (.mov (.t 10)), (some (80, true))⟩, ⟨(some 82), (.len false (.t 81)), (some (80, true))⟩, ⟨(some 83), (.bin .eql (.t 82) (.c (.int .i64 1))), (some (80, true))⟩, ⟨(some 84), (.pick (.t 80) (.t 83) (.c (.bool false))), none⟩, ⟨(some 85), (.mov (.t 84)), none⟩, ⟨(some 86), (.mov (.t 10)), (some (85, true))⟩, ⟨(some 87), (.ixp 1 (.t 86) (.c (.int .i64 0))), (some (85, true))⟩, ⟨(some 88), (.load 1 false (.t 87)), (some (85, true))⟩, ⟨(some 89), (.len false (.t 88)), (some (85, true))⟩, ⟨(some 90), (.bin .eql (.t 89) (.c (.int .i64 1))), (some (85, true))⟩, ⟨(some 91), (.pick (.t 85) (.t 90) (.c (.bool false))), none⟩, ⟨(some 92), (.mov (.t 91)), none⟩, ⟨(some 93), (.mov (.t 10)), (some (92, true))⟩, ⟨(some 94), (.ixp 1 (.t 93) (.c (.int .i64 0))), (some (92, true))⟩, ⟨(some 95), (.load 1 false (.t 94)), (some (92, true))⟩, ⟨(some 96), (.ixp 2 (.t 95) (.c (.int .i64 0))), (some (92, true))⟩, ⟨(some 97), (.load 2 true (.t 96)), (some (92, true))⟩, ⟨(some 98), (.mov (.t 7)), (some (92, true))⟩, ⟨(some 99), (.mov (.t 9)), (some (92, true))⟩, ⟨(some 100), (.build [(.str []), (.str [])] [(0, (1, (.t 98))), (1, (1, (.t 99)))]), (some (92, true))⟩, ⟨(some 101), (.eqs false [.s, .s] (.t 97) (.t 100)), (some (92, true))⟩, ⟨(some 102), (.pick (.t 92) (.t 101) (.c (.bool false))), none⟩, ⟨(some 103), (.mov (.t 102)), none⟩, ⟨(some 104), (.mov (.t 13)), (some (103, true))⟩, ⟨(some 105), (.bin .eql (.t 104) (.c (.int .i64 0))), (some (103, true))⟩, ⟨(some 106), (.pick (.t 103) (.t 105) (.c (.bool false))), none⟩, ⟨(some 107), (.mov (.t 106)), none⟩, ⟨(some 108), (.mov (.t 12)), (some (107, true))⟩, ⟨(some 109), (.len false (.t 108)), (some (107, true))⟩, ⟨(some 110), (.bin .eql (.t 109) (.c (.int .i64 2))), (some (107, true))⟩, ⟨(some 111), (.pick (.t 107) (.t 110) (.c (.bool false))), none⟩, ⟨(some 112), (.mov (.t 111)), none⟩, ⟨(some 113), (.mov (.t 15)), (some (112, true))⟩, ⟨(some 114), (.bin .eql (.t 113) (.c (.int .i64 15))), (some (112, true))⟩, ⟨(some 115), (.pick (.t 112) (.t 114) (.c (.bool false))), none⟩, ⟨(some 116), (.mov (.t 115)), none⟩, ⟨(some 117), (.mov (.t 10)), (some (116, true))⟩, ⟨(some 118), (.call 23 [(.t 117)]), (some (116, true))⟩, ⟨(some 119), (.mov (.t 7)), (some (116, true))⟩, ⟨(some 120), (.bin .add (.t 119) (.c (.str [61]))), (some (116, true))⟩, ⟨(some 121), (.mov (.t 9)), (some (116, true))⟩, ⟨(some 122), (.bin .add (.t 120) (.t 121)), (some (116, true))⟩, ⟨(some 123), (.bin .eql (.t 118) (.t 122)), (some (116, true))⟩, ⟨(some 124), (.pick (.t 116) (.t 123) (.c (.bool false))), none⟩, ⟨(some 125), (.mov (.t 124)), none⟩, ⟨(some 126), (.mov (.t 7)), (some (125, true))⟩, ⟨(some 127), (.call 25 [(.t 126)]), (some (125, true))⟩, ⟨(some 128), (.pick (.t 125) (.t 127) (.c (.bool false))), none⟩, ⟨(some 129), (.mov (.t 128)), none⟩, ⟨(some 130), (.mov (.t 8)), (some (129, true))⟩, ⟨(some 131), (.call 25 [(.t 130)]), (some (129, true))⟩, ⟨(some 132), (.un .not (.t 131)), (some (129, true))⟩, ⟨(some 133), (.pick (.t 129) (.t 132) (.c (.bool false))), none⟩, ⟨(some 134), (.mov (.t 133)), none⟩, ⟨(some 135), (.mov (.t 8)), (some (134, true))⟩, ⟨(some 136), (.call 27 [(.t 135)]), (some (134, true))⟩, ⟨(some 137), (.mov (.t 7)), (some (134, true))⟩, ⟨(some 138), (.bin .eql (.t 136) (.t 137)), (some (134, true))⟩, ⟨(some 139), (.pick (.t 134) (.t 138) (.c (.bool false))), none⟩, ⟨(some 6), (.mov (.t 139)), none⟩]) .ret)))))))))
theorem k6_cf : cfunc Try.prog Try.f6 = some ⟨140, k6, [(.tmp 6)]⟩ := by kernel_rfl
theorem sat_prefectlaw4_NameCases (N : Nat) (a0 : UInt8) (a1 : UInt8) (a2 : UInt8) (r : Bool) (h : prefectlaw4_NameCases N a0 a1 a2 = some r) : Sat Try.prog 6 noRows [eb a0, eb a1, eb a2] (.bool r) noRows := by
  refine xsat mixed Try.func6 k6_cf (rs := [.bool r]) rfl rfl ?_
  refine xseq ?_
  refine xreg ?_
  refine wpp rfl rfl ?_
  refine xseq ?_
  refine xseq ?_
  refine xreg ?_
  obtain ⟨x16, hx16, h⟩ := bindS h
  refine woo rfl (ocal (sat_prefectlaw4_known N _ hx16) rfl .nil rfl rfl rfl) ?_
  refine wpp rfl rfl ?_
  rcases bifS h with ⟨c1, h⟩ | ⟨c1, h⟩
  · refine xcT rfl c1 ?_
    refine xseq ?_
    refine xreg ?_
    refine wpp rfl rfl ?_
    obtain rfl := someS h
    refine xret ?_
    exact ⟨nofun, rfl, rfl⟩
  · refine xcF rfl c1 ?_
    refine xskip ?_
    refine xseq ?_
    refine xreg ?_
    refine wpp rfl rfl ?_
    refine wpp rfl (p_u8rem (a := a0) (b := (26 : UInt8)) (u := ()) rfl rfl rfl) ?_
    refine wpp rfl (p_u8add (a := (97 : UInt8)) (b := (a0 % (26 : UInt8))) rfl rfl) ?_
    refine wpp rfl rfl ?_
    refine wpp rfl (p_u8rem (a := a1) (b := (10 : UInt8)) (u := ()) rfl rfl rfl) ?_
    refine wpp rfl (p_u8add (a := (48 : UInt8)) (b := (a1 % (10 : UInt8))) rfl rfl) ?_
    refine woo rfl (obsl 24 rfl rfl rfl) ?_
    refine wpp rfl (p_cvbr (l := [((97 : UInt8) + (a0 % (26 : UInt8))), ((48 : UInt8) + (a1 % (10 : UInt8))), (45 : UInt8)]) rfl rfl (full_row (f := eb) (l := [((97 : UInt8) + (a0 % (26 : UInt8))), ((48 : UInt8) + (a1 % (10 : UInt8))), (45 : UInt8)]))) ?_
    refine wpp rfl rfl ?_
    refine xseq ?_
    refine xreg ?_
    refine wpp rfl rfl ?_
    refine wpp rfl (p_u8rem (a := a0) (b := (26 : UInt8)) (u := ()) rfl rfl rfl) ?_
    refine wpp rfl (p_u8add (a := (65 : UInt8)) (b := (a0 % (26 : UInt8))) rfl rfl) ?_
    refine wpp rfl rfl ?_
    refine wpp rfl (p_u8rem (a := a1) (b := (10 : UInt8)) (u := ()) rfl rfl rfl) ?_
    refine wpp rfl (p_u8add (a := (48 : UInt8)) (b := (a1 % (10 : UInt8))) rfl rfl) ?_
    refine woo rfl (obsl 32 rfl rfl rfl) ?_
    refine wpp rfl (p_cvbr (l := [((65 : UInt8) + (a0 % (26 : UInt8))), ((48 : UInt8) + (a1 % (10 : UInt8))), (45 : UInt8)]) rfl rfl (full_row (f := eb) (l := [((65 : UInt8) + (a0 % (26 : UInt8))), ((48 : UInt8) + (a1 % (10 : UInt8))), (45 : UInt8)]))) ?_
    refine wpp rfl rfl ?_
    refine xseq ?_
    refine xreg ?_
    refine wpp rfl rfl ?_
    refine wpp rfl (p_u8rem (a := a2) (b := (26 : UInt8)) (u := ()) rfl rfl rfl) ?_
    refine wpp rfl (p_u8add (a := (65 : UInt8)) (b := (a2 % (26 : UInt8))) rfl rfl) ?_
    refine wpp rfl rfl ?_
    refine wpp rfl (p_u8rem (a := a2) (b := (26 : UInt8)) (u := ()) rfl rfl rfl) ?_
    refine wpp rfl (p_u8add (a := (97 : UInt8)) (b := (a2 % (26 : UInt8))) rfl rfl) ?_
    refine woo rfl (obsl 40 rfl rfl rfl) ?_
    refine wpp rfl (p_cvbr (l := [((65 : UInt8) + (a2 % (26 : UInt8))), ((97 : UInt8) + (a2 % (26 : UInt8)))]) rfl rfl (full_row (f := eb) (l := [((65 : UInt8) + (a2 % (26 : UInt8))), ((97 : UInt8) + (a2 % (26 : UInt8)))]))) ?_
    refine wpp rfl rfl ?_
    refine xseq ?_
    refine xreg ?_
    refine wpp rfl rfl ?_
    obtain ⟨x44, hx44, h⟩ := bindS h
    refine wpp rfl (p_cat hx44 rfl rfl) ?_
    refine wpp rfl rfl ?_
    obtain ⟨x46, hx46, h⟩ := bindS h
    refine wpp rfl (p_cat hx46 rfl rfl) ?_
    obtain ⟨x47, hx47, h⟩ := bindS h
    refine woo rfl (ocal (sat_dn_Parse N _ _ hx47) rfl (.cons sub_rfl .nil) rfl rfl rfl) ?_
    refine wpp rfl rfl ?_
    refine wpp rfl rfl ?_
    refine wpp rfl rfl ?_
    refine wpp rfl rfl ?_
    refine wpp rfl rfl ?_
    refine xseq ?_
    refine xreg ?_
    refine wpp rfl rfl ?_
    obtain ⟨x52, hx52, h⟩ := bindS h
    refine wpp rfl (p_cat hx52 rfl rfl) ?_
    refine wpp rfl rfl ?_
    obtain ⟨x54, hx54, h⟩ := bindS h
    refine wpp rfl (p_cat hx54 rfl rfl) ?_
    obtain ⟨x55, hx55, h⟩ := bindS h
    refine wpp rfl (p_cat hx55 rfl rfl) ?_
    refine wpp rfl rfl ?_
    obtain ⟨x57, hx57, h⟩ := bindS h
    refine wpp rfl (p_cat hx57 rfl rfl) ?_
    obtain ⟨x58, hx58, h⟩ := bindS h
    refine wpp rfl (p_cat hx58 rfl rfl) ?_
    refine wpp rfl rfl ?_
    obtain ⟨x60, hx60, h⟩ := bindS h
    refine wpp rfl (p_cat hx60 rfl rfl) ?_
    obtain ⟨x61, hx61, h⟩ := bindS h
    refine woo rfl (ocal (sat_dn_Parse N _ _ hx61) rfl (.cons sub_rfl .nil) rfl rfl rfl) ?_
    refine wpp rfl rfl ?_
    refine wpp rfl rfl ?_
    refine wpp rfl rfl ?_
    refine wpp rfl rfl ?_
    refine wpp rfl rfl ?_
    refine xseq ?_
    refine xreg ?_
    refine wpp rfl rfl ?_
    obtain ⟨x66, hx66, h⟩ := bindS h
    refine wpp rfl (p_cat hx66 rfl rfl) ?_
    refine wpp rfl rfl ?_
    obtain ⟨x68, hx68, h⟩ := bindS h
    refine wpp rfl (p_cat hx68 rfl rfl) ?_
    obtain ⟨x69, hx69, h⟩ := bindS h
    refine wpp rfl (p_cat hx69 rfl rfl) ?_
    refine wpp rfl rfl ?_
    obtain ⟨x71, hx71, h⟩ := bindS h
    refine wpp rfl (p_cat hx71 rfl rfl) ?_
    obtain ⟨x72, hx72, h⟩ := bindS h
    refine wpp rfl (p_cat hx72 rfl rfl) ?_
    refine wpp rfl rfl ?_
    obtain ⟨x74, hx74, h⟩ := bindS h
    refine wpp rfl (p_cat hx74 rfl rfl) ?_
    obtain ⟨x75, hx75, h⟩ := bindS h
    refine woo rfl (ocal (sat_dn_Parse N _ _ hx75) rfl (.cons sub_rfl .nil) rfl rfl rfl) ?_
    refine wpp rfl rfl ?_
    refine wpp rfl rfl ?_
    refine wpp rfl rfl ?_
    refine wpp rfl rfl ?_
    refine wpp rfl rfl ?_
    obtain ⟨g2, hg2, h⟩ := bindS h
    refine xseg ⟨ofL [(6, .bool g2)], ofL []⟩ ?_ ?_
    · have h := hg2
      refine xreg ?_
      refine wpp rfl rfl ?_
      refine wpp rfl rfl ?_
      refine wpp rfl rfl ?_
      rcases bifS h with ⟨c3, h⟩ | ⟨c3, h⟩
      · skip
        refine wpp (gy rfl c3) rfl ?_
        refine wpp (gy rfl c3) (p_lens rfl) ?_
        refine wpp (gy rfl c3) rfl ?_
        refine wpp rfl (p_pick1 c3 rfl rfl) ?_
        refine wpp rfl rfl ?_
        rcases bifS h with ⟨c4, h⟩ | ⟨c4, h⟩
        · skip
          refine wpp (gy rfl c4) rfl ?_
          obtain ⟨x87, hx87, h⟩ := bindS h
          refine wpp (gy rfl c4) (p_ixs (cs := [.sl 2 (List.map e_api_AVA x87)]) hx87 rfl rfl rfl) ?_
          refine wpp (gy rfl c4) rfl ?_
          refine wpp (gy rfl c4) (p_lens rfl) ?_
          refine wpp (gy rfl c4) rfl ?_
          refine wpp rfl (p_pick1 c4 rfl rfl) ?_
          refine wpp rfl rfl ?_
          rcases bifS h with ⟨c5, h⟩ | ⟨c5, h⟩
          · skip
            refine wpp (gy rfl c5) rfl ?_
            obtain ⟨x94, hx94, h⟩ := bindS h
            refine wpp (gy rfl c5) (p_ixs (cs := [.sl 2 (List.map e_api_AVA x94)]) hx94 rfl rfl rfl) ?_
            refine wpp (gy rfl c5) rfl ?_
            obtain ⟨x96, hx96, h⟩ := bindS h
            refine wpp (gy rfl c5) (p_ixs (cs := [.str x96.Attr, .str x96.Value]) hx96 rfl rfl rfl) ?_
            refine wpp (p := e_api_AVA x96) (gy rfl c5) rfl ?_
            refine wpp (gy rfl c5) rfl ?_
            refine wpp (gy rfl c5) rfl ?_
            refine wpp (p := .agg [.str [((97 : UInt8) + (a0 % (26 : UInt8))), ((48 : UInt8) + (a1 % (10 : UInt8))), (45 : UInt8)], .str [((65 : UInt8) + (a2 % (26 : UInt8))), ((97 : UInt8) + (a2 % (26 : UInt8)))]]) (gy rfl c5) rfl ?_
            refine wpp (p := .bool (x96.Attr == [((97 : UInt8) + (a0 % (26 : UInt8))), ((48 : UInt8) + (a1 % (10 : UInt8))), (45 : UInt8)] && (x96.Value == [((65 : UInt8) + (a2 % (26 : UInt8))), ((97 : UInt8) + (a2 % (26 : UInt8)))] && true))) (gy rfl c5) rfl ?_
            refine wpp rfl (p_pick1 c5 rfl rfl) ?_
            refine wpp rfl rfl ?_
            rcases bifS h with ⟨c6, h⟩ | ⟨c6, h⟩
            · skip
              refine wpp (gy rfl c6) rfl ?_
              refine wpp (gy rfl c6) rfl ?_
              refine wpp rfl (p_pick1 c6 rfl rfl) ?_
              refine wpp rfl rfl ?_
              rcases bifS h with ⟨c7, h⟩ | ⟨c7, h⟩
              · skip
                refine wpp (gy rfl c7) rfl ?_
                refine wpp (gy rfl c7) (p_lens rfl) ?_
                refine wpp (gy rfl c7) rfl ?_
                refine wpp rfl (p_pick1 c7 rfl rfl) ?_
                refine wpp rfl rfl ?_
                rcases bifS h with ⟨c8, h⟩ | ⟨c8, h⟩
                · skip
                  refine wpp (gy rfl c8) rfl ?_
                  refine wpp (gy rfl c8) rfl ?_
                  refine wpp rfl (p_pick1 c8 rfl rfl) ?_
                  refine wpp rfl rfl ?_
                  rcases bifS h with ⟨c9, h⟩ | ⟨c9, h⟩
                  · skip
                    refine wpp (gy rfl c9) rfl ?_
                    obtain ⟨x118, hx118, h⟩ := bindS h
                    refine woo (gy rfl c9) (ocal (sat_dn_Print N _ _ hx118) rfl (.cons sub_rfl .nil) rfl rfl rfl) ?_
                    refine wpp (gy rfl c9) rfl ?_
                    obtain ⟨x120, hx120, h⟩ := bindS h
                    refine wpp (gy rfl c9) (p_cat hx120 rfl rfl) ?_
                    refine wpp (gy rfl c9) rfl ?_
                    obtain ⟨x122, hx122, h⟩ := bindS h
                    refine wpp (gy rfl c9) (p_cat hx122 rfl rfl) ?_
                    refine wpp (gy rfl c9) rfl ?_
                    refine wpp rfl (p_pick1 c9 rfl rfl) ?_
                    refine wpp rfl rfl ?_
                    rcases bifS h with ⟨c10, h⟩ | ⟨c10, h⟩
                    · skip
                      refine wpp (gy rfl c10) rfl ?_
                      obtain ⟨x127, hx127, h⟩ := bindS h
                      refine woo (gy rfl c10) (ocal (sat_dn_IsType N _ _ hx127) rfl (.cons sub_rfl .nil) rfl rfl rfl) ?_
                      refine wpp rfl (p_pick1 c10 rfl rfl) ?_
                      refine wpp rfl rfl ?_
                      rcases bifS h with ⟨c11, h⟩ | ⟨c11, h⟩
                      · skip
                        refine wpp (gy rfl c11) rfl ?_
                        obtain ⟨x131, hx131, h⟩ := bindS h
                        refine woo (gy rfl c11) (ocal (sat_dn_IsType N _ _ hx131) rfl (.cons sub_rfl .nil) rfl rfl rfl) ?_
                        refine wpp (gy rfl c11) rfl ?_
                        refine wpp rfl (p_pick1 c11 rfl rfl) ?_
                        refine wpp rfl rfl ?_
                        rcases bifS h with ⟨c12, h⟩ | ⟨c12, h⟩
                        · skip
                          refine wpp (gy rfl c12) rfl ?_
                          obtain ⟨x136, hx136, h⟩ := bindS h
                          refine woo (gy rfl c12) (ocal (sat_dn_Lower N _ _ hx136) rfl (.cons sub_rfl .nil) rfl rfl rfl) ?_
                          refine wpp (gy rfl c12) rfl ?_
                          refine wpp (gy rfl c12) rfl ?_
                          refine wpp rfl (p_pick1 c12 rfl rfl) ?_
                          refine wpp rfl rfl ?_
                          obtain rfl := someS h
                          exact (canon0 ⟨rfl, trivial⟩ trivial rfl rfl)
                        · skip
                          refine wsk (gn rfl c12) ?_
                          refine wsk (gn rfl c12) ?_
                          refine wsk (gn rfl c12) ?_
                          refine wsk (gn rfl c12) ?_
                          refine wpp rfl (p_pick0 c12 rfl rfl) ?_
                          refine wpp rfl rfl ?_
                          obtain rfl := someS h
                          exact (canon0 ⟨rfl, trivial⟩ trivial rfl rfl)
                      · skip
                        refine wsk (gn rfl c11) ?_
                        refine wsk (gn rfl c11) ?_
                        refine wsk (gn rfl c11) ?_
                        refine wpp rfl (p_pick0 c11 rfl rfl) ?_
                        refine wpp rfl rfl ?_
                        refine wsk rfl ?_
                        refine wsk rfl ?_
                        refine wsk rfl ?_
                        refine wsk rfl ?_
                        refine wpp rfl rfl ?_
                        refine wpp rfl rfl ?_
                        obtain rfl := someS h
                        exact (canon0 ⟨rfl, trivial⟩ trivial rfl rfl)
                    · skip
                      refine wsk (gn rfl c10) ?_
                      refine wsk (gn rfl c10) ?_
                      refine wpp rfl (p_pick0 c10 rfl rfl) ?_
                      refine wpp rfl rfl ?_
                      refine wsk rfl ?_
                      refine wsk rfl ?_
                      refine wsk rfl ?_
                      refine wpp rfl rfl ?_
                      refine wpp rfl rfl ?_
                      refine wsk rfl ?_
                      refine wsk rfl ?_
                      refine wsk rfl ?_
                      refine wsk rfl ?_
                      refine wpp rfl rfl ?_
                      refine wpp rfl rfl ?_
                      obtain rfl := someS h
                      exact (canon0 ⟨rfl, trivial⟩ trivial rfl rfl)
                  · skip
                    refine wsk (gn rfl c9) ?_
                    refine wsk (gn rfl c9) ?_
                    refine wsk (gn rfl c9) ?_
                    refine wsk (gn rfl c9) ?_
                    refine wsk (gn rfl c9) ?_
                    refine wsk (gn rfl c9) ?_
                    refine wsk (gn rfl c9) ?_
                    refine wpp rfl (p_pick0 c9 rfl rfl) ?_
                    refine wpp rfl rfl ?_
                    refine wsk rfl ?_
                    refine wsk rfl ?_
                    refine wpp rfl rfl ?_
                    refine wpp rfl rfl ?_
                    refine wsk rfl ?_
                    refine wsk rfl ?_
                    refine wsk rfl ?_
                    refine wpp rfl rfl ?_
                    refine wpp rfl rfl ?_
                    refine wsk rfl ?_
                    refine wsk rfl ?_
                    refine wsk rfl ?_
                    refine wsk rfl ?_
                    refine wpp rfl rfl ?_
                    refine wpp rfl rfl ?_
                    obtain rfl := someS h
                    exact (canon0 ⟨rfl, trivial⟩ trivial rfl rfl)
                · skip
                  refine wsk (gn rfl c8) ?_
                  refine wsk (gn rfl c8) ?_
                  refine wpp rfl (p_pick0 c8 rfl rfl) ?_
                  refine wpp rfl rfl ?_
                  refine wsk rfl ?_
                  refine wsk rfl ?_
                  refine wsk rfl ?_
                  refine wsk rfl ?_
                  refine wsk rfl ?_
                  refine wsk rfl ?_
                  refine wsk rfl ?_
                  refine wpp rfl rfl ?_
                  refine wpp rfl rfl ?_
                  refine wsk rfl ?_
                  refine wsk rfl ?_
                  refine wpp rfl rfl ?_
                  refine wpp rfl rfl ?_
                  refine wsk rfl ?_
                  refine wsk rfl ?_
                  refine wsk rfl ?_
                  refine wpp rfl rfl ?_
                  refine wpp rfl rfl ?_
                  refine wsk rfl ?_
                  refine wsk rfl ?_
                  refine wsk rfl ?_
                  refine wsk rfl ?_
                  refine wpp rfl rfl ?_
                  refine wpp rfl rfl ?_
                  obtain rfl := someS h
                  exact (canon0 ⟨rfl, trivial⟩ trivial rfl rfl)
              · skip
                refine wsk (gn rfl c7) ?_
                refine wsk (gn rfl c7) ?_
                refine wsk (gn rfl c7) ?_
                refine wpp rfl (p_pick0 c7 rfl rfl) ?_
                refine wpp rfl rfl ?_
                refine wsk rfl ?_
                refine wsk rfl ?_
                refine wpp rfl rfl ?_
                refine wpp rfl rfl ?_
                refine wsk rfl ?_
                refine wsk rfl ?_
                refine wsk rfl ?_
                refine wsk rfl ?_
                refine wsk rfl ?_
                refine wsk rfl ?_
                refine wsk rfl ?_
                refine wpp rfl rfl ?_
                refine wpp rfl rfl ?_
                refine wsk rfl ?_
                refine wsk rfl ?_
                refine wpp rfl rfl ?_
                refine wpp rfl rfl ?_
                refine wsk rfl ?_
                refine wsk rfl ?_
                refine wsk rfl ?_
                refine wpp rfl rfl ?_
                refine wpp rfl rfl ?_
                refine wsk rfl ?_
                refine wsk rfl ?_
                refine wsk rfl ?_
                refine wsk rfl ?_
                refine wpp rfl rfl ?_
                refine wpp rfl rfl ?_
                obtain rfl := someS h
                exact (canon0 ⟨rfl, trivial⟩ trivial rfl rfl)
            · skip
              refine wsk (gn rfl c6) ?_
              refine wsk (gn rfl c6) ?_
              refine wpp rfl (p_pick0 c6 rfl rfl) ?_
              refine wpp rfl rfl ?_
              refine wsk rfl ?_
              refine wsk rfl ?_
              refine wsk rfl ?_
              refine wpp rfl rfl ?_
              refine wpp rfl rfl ?_
              refine wsk rfl ?_
              refine wsk rfl ?_
              refine wpp rfl rfl ?_
              refine wpp rfl rfl ?_
              refine wsk rfl ?_
              refine wsk rfl ?_
              refine wsk rfl ?_
              refine wsk rfl ?_
              refine wsk rfl ?_
              refine wsk rfl ?_
              refine wsk rfl ?_
              refine wpp rfl rfl ?_
              refine wpp rfl rfl ?_
              refine wsk rfl ?_
              refine wsk rfl ?_
              refine wpp rfl rfl ?_
              refine wpp rfl rfl ?_
              refine wsk rfl ?_
              refine wsk rfl ?_
              refine wsk rfl ?_
              refine wpp rfl rfl ?_
              refine wpp rfl rfl ?_
              refine wsk rfl ?_
              refine wsk rfl ?_
              refine wsk rfl ?_
              refine wsk rfl ?_
              refine wpp rfl rfl ?_
              refine wpp rfl rfl ?_
              obtain rfl := someS h
              exact (canon0 ⟨rfl, trivial⟩ trivial rfl rfl)
          · skip
            refine wsk (gn rfl c5) ?_
            refine wsk (gn rfl c5) ?_
            refine wsk (gn rfl c5) ?_
            refine wsk (gn rfl c5) ?_
            refine wsk (gn rfl c5) ?_
            refine wsk (gn rfl c5) ?_
            refine wsk (gn rfl c5) ?_
            refine wsk (gn rfl c5) ?_
            refine wsk (gn rfl c5) ?_
            refine wpp rfl (p_pick0 c5 rfl rfl) ?_
            refine wpp rfl rfl ?_
            refine wsk rfl ?_
            refine wsk rfl ?_
            refine wpp rfl rfl ?_
            refine wpp rfl rfl ?_
            refine wsk rfl ?_
            refine wsk rfl ?_
            refine wsk rfl ?_
            refine wpp rfl rfl ?_
            refine wpp rfl rfl ?_
            refine wsk rfl ?_
            refine wsk rfl ?_
            refine wpp rfl rfl ?_
            refine wpp rfl rfl ?_
            refine wsk rfl ?_
            refine wsk rfl ?_
            refine wsk rfl ?_
            refine wsk rfl ?_
            refine wsk rfl ?_
            refine wsk rfl ?_
            refine wsk rfl ?_
            refine wpp rfl rfl ?_
            refine wpp rfl rfl ?_
            refine wsk rfl ?_
            refine wsk rfl ?_
            refine wpp rfl rfl ?_
            refine wpp rfl rfl ?_
            refine wsk rfl ?_
            refine wsk rfl ?_
            refine wsk rfl ?_
            refine wpp rfl rfl ?_
            refine wpp rfl rfl ?_
            refine wsk rfl ?_
            refine wsk rfl ?_
            refine wsk rfl ?_
            refine wsk rfl ?_
            refine wpp rfl rfl ?_
            refine wpp rfl rfl ?_
            obtain rfl := someS h
            exact (canon0 ⟨rfl, trivial⟩ trivial rfl rfl)
        · skip
          refine wsk (gn rfl c4) ?_
          refine wsk (gn rfl c4) ?_
          refine wsk (gn rfl c4) ?_
          refine wsk (gn rfl c4) ?_
          refine wsk (gn rfl c4) ?_
          refine wpp rfl (p_pick0 c4 rfl rfl) ?_
          refine wpp rfl rfl ?_
          refine wsk rfl ?_
          refine wsk rfl ?_
          refine wsk rfl ?_
          refine wsk rfl ?_
          refine wsk rfl ?_
          refine wsk rfl ?_
          refine wsk rfl ?_
          refine wsk rfl ?_
          refine wsk rfl ?_
          refine wpp rfl rfl ?_
          refine wpp rfl rfl ?_
          refine wsk rfl ?_
          refine wsk rfl ?_
          refine wpp rfl rfl ?_
          refine wpp rfl rfl ?_
          refine wsk rfl ?_
          refine wsk rfl ?_
          refine wsk rfl ?_
          refine wpp rfl rfl ?_
          refine wpp rfl rfl ?_
          refine wsk rfl ?_
          refine wsk rfl ?_
          refine wpp rfl rfl ?_
          refine wpp rfl rfl ?_
          refine wsk rfl ?_
          refine wsk rfl ?_
          refine wsk rfl ?_
          refine wsk rfl ?_
          refine wsk rfl ?_
          refine wsk rfl ?_
          refine wsk rfl ?_
          refine wpp rfl rfl ?_
          refine wpp rfl rfl ?_
          refine wsk rfl ?_
          refine wsk rfl ?_
          refine wpp rfl rfl ?_
          refine wpp rfl rfl ?_
          refine wsk rfl ?_
          refine wsk rfl ?_
          refine wsk rfl ?_
          refine wpp rfl rfl ?_
          refine wpp rfl rfl ?_
          refine wsk rfl ?_
          refine wsk rfl ?_
          refine wsk rfl ?_
          refine wsk rfl ?_
          refine wpp rfl rfl ?_
          refine wpp rfl rfl ?_
          obtain rfl := someS h
          exact (canon0 ⟨rfl, trivial⟩ trivial rfl rfl)
      · skip
        refine wsk (gn rfl c3) ?_
        refine wsk (gn rfl c3) ?_
        refine wsk (gn rfl c3) ?_
        refine wpp rfl (p_pick0 c3 rfl rfl) ?_
        refine wpp rfl rfl ?_
        refine wsk rfl ?_
        refine wsk rfl ?_
        refine wsk rfl ?_
        refine wsk rfl ?_
        refine wsk rfl ?_
        refine wpp rfl rfl ?_
        refine wpp rfl rfl ?_
        refine wsk rfl ?_
        refine wsk rfl ?_
        refine wsk rfl ?_
        refine wsk rfl ?_
        refine wsk rfl ?_
        refine wsk rfl ?_
        refine wsk rfl ?_
        refine wsk rfl ?_
        refine wsk rfl ?_
        refine wpp rfl rfl ?_
        refine wpp rfl rfl ?_
        refine wsk rfl ?_
        refine wsk rfl ?_
        refine wpp rfl rfl ?_
        refine wpp rfl rfl ?_
        refine wsk rfl ?_
        refine wsk rfl ?_
        refine wsk rfl ?_
        refine wpp rfl rfl ?_
        refine wpp rfl rfl ?_
        refine wsk rfl ?_
        refine wsk rfl ?_
        refine wpp rfl rfl ?_
        refine wpp rfl rfl ?_
        refine wsk rfl ?_
        refine wsk rfl ?_
        refine wsk rfl ?_
        refine wsk rfl ?_
        refine wsk rfl ?_
        refine wsk rfl ?_
        refine wsk rfl ?_
        refine wpp rfl rfl ?_
        refine wpp rfl rfl ?_
        refine wsk rfl ?_
        refine wsk rfl ?_
        refine wpp rfl rfl ?_
        refine wpp rfl rfl ?_
        refine wsk rfl ?_
        refine wsk rfl ?_
        refine wsk rfl ?_
        refine wpp rfl rfl ?_
        refine wpp rfl rfl ?_
        refine wsk rfl ?_
        refine wsk rfl ?_
        refine wsk rfl ?_
        refine wsk rfl ?_
        refine wpp rfl rfl ?_
        refine wpp rfl rfl ?_
        obtain rfl := someS h
        exact (canon0 ⟨rfl, trivial⟩ trivial rfl rfl)
    · clear hg2
      obtain rfl := someS h
      refine xret ?_
      exact ⟨nofun, rfl, rfl⟩
end Go.Gp
end
