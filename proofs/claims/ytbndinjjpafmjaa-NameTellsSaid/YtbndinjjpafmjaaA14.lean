/- A part of the proof: functions of the program and what they compute. -/
import Derived.Test.YtbndinjjpafmjaaA6
import Derived.Test.YtbndinjjpafmjaaA11
import Derived.Test.YtbndinjjpafmjaaA12
import Derived.Test.YtbndinjjpafmjaaA9
import Derived.Test.YtbndinjjpafmjaaA13
import Derived.Test.YtbndinjjpafmjaaA8
section
set_option linter.unusedVariables false
set_option linter.unusedSimpArgs false
set_option maxRecDepth 4000
namespace Go.Gp
open Go.Vd Go.RowKit Go.Proofs
def k3 : IC := (.seq (.reg [⟨(some 6), (.mov (.c (.bool false))), none⟩]) (.seq (.seq (.reg [⟨(some 17), (.call 8 []), none⟩, ⟨(some 18), (.un .not (.t 17)), none⟩]) (.cond (.t 18) (.seq (.reg [⟨(some 6), (.mov (.c (.bool false))), none⟩]) .ret) .skip)) (.seq (.seq (.reg [⟨(some 19), (.mov (.t 0)), none⟩, ⟨(some 20), (.call 9 [(.t 19)]), none⟩, ⟨(some 21), (.un .not (.t 20)), none⟩, ⟨(some 22), (.mov (.t 21)), none⟩, ⟨(some 23), (.mov (.t 1)), (some (22, false))⟩, ⟨(some 24), (.call 10 [(.t 23)]), (some (22, false))⟩, ⟨(some 25), (.un .not (.t 24)), (some (22, false))⟩, ⟨(some 26), (.pick (.t 22) (.c (.bool true)) (.t 25)), none⟩, ⟨(some 27), (.mov (.t 26)), none⟩, ⟨(some 28), (.mov (.t 2)), (some (27, false))⟩, ⟨(some 29), (.len true (.t 28)), (some (27, false))⟩, ⟨(some 30), (.bin .gtr (.t 29) (.c (.int .i64 400))), (some (27, false))⟩, ⟨(some 31), (.pick (.t 27) (.c (.bool true)) (.t 30)), none⟩]) (.cond (.t 31) (.seq (.reg [⟨(some 6), (.mov (.c (.bool true))), none⟩]) .ret) .skip)) (.seq (.reg [⟨(some 7), (.mov (.c (.str []))), none⟩, ⟨(some 8), (.mov (.c (.str []))), none⟩]) (.seq (.seq (.reg [⟨(some 32), (.mov (.t 0)), none⟩, ⟨(some 33), (.call 11 [(.t 32)]), none⟩]) (.cond (.t 33) (.reg [⟨(some 34), (.mov (.t 0)), none⟩, ⟨(some 35), (.call 12 [(.t 34)]), none⟩, ⟨(some 7), (.mov (.t 35)), none⟩]) .skip)) (.seq (.seq (.reg [⟨(some 36), (.mov (.t 1)), none⟩, ⟨(some 37), (.call 13 [(.t 36)]), none⟩]) (.cond (.t 37) (.reg [⟨(some 38), (.mov (.t 1)), none⟩, ⟨(some 39), (.call 14 [(.t 38)]), none⟩, ⟨(some 8), (.mov (.t 39)), none⟩]) .skip)) (.seq (.reg [⟨(some 41), (.mov (.t 2)), none⟩, ⟨(some 42), (.call 15 [(.t 41)]), none⟩, ⟨(some 40), (.mov (.t 42)), none⟩, ⟨(some 43), (.ext 0 (.t 40)), none⟩, ⟨(some 44), (.ext 1 (.t 40)), none⟩, ⟨(some 9), (.mov (.t 43)), none⟩, ⟨(some 10), (.mov (.t 44)), none⟩]) (.seq (.reg [⟨(some 46), (.mov (.t 2)), none⟩, ⟨(some 47), (.call 16 [(.t 46)]), none⟩, ⟨(some 45), (.mov (.t 47)), none⟩, ⟨(some 48), (.ext 0 (.t 45)), none⟩, ⟨(some 49), (.ext 1 (.t 45)), none⟩, ⟨(some 11), (.mov (.t 48)), none⟩, ⟨(some 12), (.mov (.t 49)), none⟩]) (.seq (.reg [⟨(some 51), (.mov (.t 2)), none⟩, ⟨(some 52), (.call 17 [(.t 51)]), none⟩, ⟨(some 50), (.mov (.t 52)), none⟩, ⟨(some 53), (.ext 0 (.t 50)), none⟩, ⟨(some 54), (.ext 1 (.t 50)), none⟩, ⟨(some 13), (.mov (.t 53)), none⟩, ⟨(some 14), (.mov (.t 54)), none⟩]) (.seq (.reg [⟨(some 56), (.mov (.t 2)), none⟩, ⟨(some 57), (.call 18 [(.t 56)]), none⟩, ⟨(some 55), (.mov (.t 57)), none⟩, ⟨(some 58), (.ext 0 (.t 55)), none⟩, ⟨(some 59), (.ext 1 (.t 55)), none⟩, ⟨(some 15), (.mov (.t 58)), none⟩, ⟨(some 16), (.mov (.t 59)), none⟩]) (.seq (.seq (.reg [⟨(some 60), (.mov (.t 10)), none⟩, ⟨(some 61), (.bin .eql (.t 60) (.c (.int .i64 0))), none⟩, ⟨(some 62), (.mov (.t 12)), none⟩, ⟨(some 63), (.beq true (.t 61) (.t 62)), none⟩, ⟨(some 64), (.mov (.t 63)), none⟩, ⟨(some 65), (.mov (.t 14)), (some (64, false))⟩, ⟨(some 66), (.bin .eql (.t 65) (.c (.int .i64 0))), (some (64, false))⟩, ⟨(some 67), (.mov (.t 16)), (some (64, false))⟩, ⟨(some 68), (.beq true (.t 66) (.t 67)), (some (64, false))⟩, ⟨(some 69), (.pick (.t 64) (.c (.bool true)) (.t 68)), none⟩, ⟨(some 70), (.mov (.t 69)), none⟩, ⟨(some 71), (.mov (.t 9)), (some (70, false))⟩, ⟨(some 72), (.mov (.t 11)), (some (70, false))⟩, ⟨(some 73), (.call 19 [(.t 71), (.t 72)]), (some (70, false))⟩, ⟨(some 74), (.un .not (.t 73)), (some (70, false))⟩, ⟨(some 75), (.pick (.t 70) (.c (.bool true)) (.t 74)), none⟩, ⟨(some 76), (.mov (.t 75)), none⟩, ⟨(some 77), (.mov (.t 13)), (some (76, false))⟩, ⟨(some 78), (.mov (.t 15)), (some (76, false))⟩, ⟨(some 79), (.call 20 [(.t 77), (.t 78)]), (some (76, false))⟩, ⟨(some 80), (.un .not (.t 79)), (some (76, false))⟩, ⟨(some 81), (.pick (.t 76) (.c (.bool true)) (.t 80)), none⟩, ⟨(some 82), (.mov (.t 81)), none⟩, ⟨(some 83), (.mov (.t 10)), (some (82, false))⟩, ⟨(some 84), (.bin .neq (.t 83) (.c (.int .i64 0))), (some (82, false))⟩, ⟨(some 85), (.mov (.t 84)), (some (82, false))⟩, ⟨(some 86), (.mov (.t 10)), (some (85, true))⟩, ⟨(some 87), (.bin .neq (.t 86) (.c (.int .i64 15))), (some (85, true))⟩, ⟨(some 88), (.pick (.t 85) (.t 87) (.c (.bool false))), (some (82, false))⟩, ⟨(some 89), (.pick (.t 82) (.c (.bool true)) (.t 88)), none⟩, ⟨(some 90), (.mov (.t 89)), none⟩, ⟨(some 91), (.mov (.t 14)), (some (90, false))⟩, ⟨(some 92), (.bin .neq (.t 91) (.c (.int .i64 0))), (some (90, false))⟩, ⟨(some 93), (.mov (.t 92)), (some (90, false))⟩, ⟨(some 94), (.mov (.t 14)), (some (93, true))⟩, ⟨(some 95), (.bin .neq (.t 94) (.c (.int .i64 15))), (some (93, true))⟩, ⟨(some 96), (.pick (.t 93) (.t 95) (.c (.bool false))), (some (90, false))⟩, ⟨(some 97), (.pick (.t 90) (.c (.bool true)) (.t 96)), none⟩]) (.cond (.t 97) (.seq (.reg [⟨(some 6), (.mov (.c (.bool false))), none⟩]) .ret) .skip)) (.seq (.reg [⟨(some 98), (.mov (.t 0)), none⟩, ⟨(some 99), (.call 21 [(.t 98)]), none⟩, ⟨(some 100), (.mov (.t 0)), none⟩, ⟨(some 101), (.call 11 [(.t 100)]), none⟩, ⟨(some 102), (.beq false (.t 99) (.t 101)), none⟩, ⟨(some 103), (.mov (.t 102)), none⟩, ⟨(some 104), (.mov (.t 1)), (some (103, true))⟩, ⟨(some 105), (.call 22 [(.t 104)]), (some (103, true))⟩, ⟨(some 106), (.mov (.t 1)), (some (103, true))⟩, ⟨(some 107), (.call 13 [(.t 106)]), (some (103, true))⟩, ⟨(some 108), (.beq false (.t 105) (.t 107)), (some (103, true))⟩, ⟨(some 109), (.pick (.t 103) (.t 108) (.c (.bool false))), none⟩, ⟨(some 110), (.mov (.t 109)), none⟩, ⟨(some 111), (.mov (.t 0)), (some (110, true))⟩, ⟨(some 112), (.call 23 [(.t 111)]), (some (110, true))⟩, ⟨(some 113), (.mov (.t 7)), (some (110, true))⟩, ⟨(some 114), (.bin .eql (.t 112) (.t 113)), (some (110, true))⟩, ⟨(some 115), (.pick (.t 110) (.t 114) (.c (.bool false))), none⟩, ⟨(some 116), (.mov (.t 115)), none⟩, ⟨(some 117), (.mov (.t 1)), (some (116, true))⟩, ⟨(some 118), (.call 24 [(.t 117)]), (some (116, true))⟩, ⟨(some 119), (.mov (.t 8)), (some (116, true))⟩, ⟨(some 120), (.bin .eql (.t 118) (.t 119)), (some (116, true))⟩, ⟨(some 121), (.pick (.t 116) (.t 120) (.c (.bool false))), none⟩, ⟨(some 122), (.mov (.t 121)), none⟩, ⟨(some 123), (.mov (.t 2)), (some (122, true))⟩, ⟨(some 124), (.call 25 [(.t 123)]), (some (122, true))⟩, ⟨(some 125), (.mov (.t 2)), (some (122, true))⟩, ⟨(some 126), (.call 26 [(.t 125)]), (some (122, true))⟩, ⟨(some 127), (.beq false (.t 124) (.t 126)), (some (122, true))⟩, ⟨(some 128), (.pick (.t 122) (.t 127) (.c (.bool false))), none⟩, ⟨(some 129), (.mov (.t 128)), none⟩, ⟨(some 130), (.mov (.t 2)), (some (129, true))⟩, ⟨(some 131), (.call 27 [(.t 130)]), (some (129, true))⟩, ⟨(some 132), (.mov (.t 2)), (some (129, true))⟩, ⟨(some 133), (.call 28 [(.t 132)]), (some (129, true))⟩, ⟨(some 134), (.bin .eql (.t 131) (.t 133)), (some (129, true))⟩, ⟨(some 135), (.pick (.t 129) (.t 134) (.c (.bool false))), none⟩, ⟨(some 6), (.mov (.t 135)), none⟩]) .ret))))))))))))
theorem k3_cf : cfunc Try.prog Try.f3 = some ⟨136, k3, [(.tmp 6)]⟩ := by kernel_rfl
theorem sat_prefectlaw4_NameTells (N : Nat) (a0 : List (List api_AVA)) (a1 : List api_AVA) (a2 : List UInt8) (r : Bool) (h : prefectlaw4_NameTells N a0 a1 a2 = some r) : Sat Try.prog 3 noRows [.sl 1 (List.map (es 2 e_api_AVA) a0), .sl 2 (List.map e_api_AVA a1), .str a2] (.bool r) noRows := by
  refine xsat mixed Try.func3 k3_cf (rs := [.bool r]) rfl rfl ?_
  refine xseq ?_
  refine xreg ?_
  refine wpp rfl rfl ?_
  refine xseq ?_
  refine xseq ?_
  refine xreg ?_
  obtain ⟨x17, hx17, h⟩ := bindS h
  refine woo rfl (ocal (sat_prefectlaw4_known N _ hx17) rfl .nil rfl rfl rfl) ?_
  refine wpp rfl rfl ?_
  rcases bifS h with ⟨c1, h⟩ | ⟨c1, h⟩
  · refine xcT rfl c1 ?_
    refine xseq ?_
    refine xreg ?_
    refine wpp rfl rfl ?_
    obtain rfl := someS h
    refine xret ?_
    exact ⟨nofun, rfl, rfl⟩
  · refine xcF rfl c1 ?_
    refine xskip ?_
    refine xseq ?_
    obtain ⟨g2, hg2, h⟩ := bindS h
    refine xseg ⟨ofL [(0, .sl 1 (List.map (es 2 e_api_AVA) a0)), (1, .sl 2 (List.map e_api_AVA a1)), (2, .str a2), (31, .bool g2)], ofL []⟩ ?_ ?_
    · have h := hg2
      refine xreg ?_
      refine wpp rfl rfl ?_
      obtain ⟨x20, hx20, h⟩ := bindS h
      refine woo rfl (ocal (sat_prefectlaw4_few N _ _ hx20) rfl (.cons sub_rfl .nil) rfl rfl rfl) ?_
      refine wpp rfl rfl ?_
      refine wpp rfl rfl ?_
      rcases bifS h with ⟨c3, h⟩ | ⟨c3, h⟩
      · skip
        refine wsk (gn rfl c3) ?_
        refine wsk (gn rfl c3) ?_
        refine wsk (gn rfl c3) ?_
        refine wpp rfl (p_pick1 c3 rfl rfl) ?_
        refine wpp rfl rfl ?_
        refine wsk rfl ?_
        refine wsk rfl ?_
        refine wsk rfl ?_
        refine wpp rfl rfl ?_
        obtain rfl := someS h
        exact (canon0 ⟨rfl, rfl, rfl, rfl, trivial⟩ trivial rfl rfl)
      · skip
        refine wpp (gy rfl c3) rfl ?_
        obtain ⟨x24, hx24, h⟩ := bindS h
        refine woo (gy rfl c3) (ocal (sat_prefectlaw4_fewRDN N _ _ hx24) rfl (.cons sub_rfl .nil) rfl rfl rfl) ?_
        refine wpp (gy rfl c3) rfl ?_
        refine wpp rfl (p_pick0 c3 rfl rfl) ?_
        refine wpp rfl rfl ?_
        rcases bifS h with ⟨c4, h⟩ | ⟨c4, h⟩
        · skip
          refine wsk (gn rfl c4) ?_
          refine wsk (gn rfl c4) ?_
          refine wsk (gn rfl c4) ?_
          refine wpp rfl (p_pick1 c4 rfl rfl) ?_
          obtain rfl := someS h
          exact (canon0 ⟨rfl, rfl, rfl, rfl, trivial⟩ trivial rfl rfl)
        · skip
          refine wpp (gy rfl c4) rfl ?_
          refine wpp (gy rfl c4) rfl ?_
          refine wpp (gy rfl c4) rfl ?_
          refine wpp rfl (p_pick0 c4 rfl rfl) ?_
          obtain rfl := someS h
          exact (canon0 ⟨rfl, rfl, rfl, rfl, trivial⟩ trivial rfl rfl)
    · clear hg2
      rcases bifS h with ⟨c5, h⟩ | ⟨c5, h⟩
      · refine xcT rfl c5 ?_
        refine xseq ?_
        refine xreg ?_
        refine wpp rfl rfl ?_
        obtain rfl := someS h
        refine xret ?_
        exact ⟨nofun, rfl, rfl⟩
      · refine xcF rfl c5 ?_
        refine xskip ?_
        refine xseq ?_
        refine xreg ?_
        refine wpp rfl rfl ?_
        refine wpp rfl rfl ?_
        refine xjoin (fun (x : List UInt8) => ⟨ofL [(0, .sl 1 (List.map (es 2 e_api_AVA) a0)), (1, .sl 2 (List.map e_api_AVA a1)), (2, .str a2), (7, .str x), (8, .str ([] : List UInt8))], ofL []⟩) (fun x => prefectlaw4_NameTells_j20 a0 a1 a2 N x = some r) ?_ ?_
        · rintro v7j20 h
          refine xjoin (fun (x : List UInt8) => ⟨ofL [(0, .sl 1 (List.map (es 2 e_api_AVA) a0)), (1, .sl 2 (List.map e_api_AVA a1)), (2, .str a2), (7, .str v7j20), (8, .str x)], ofL []⟩) (fun x => prefectlaw4_NameTells_j26 a0 a1 a2 N v7j20 x = some r) ?_ ?_
          · rintro v8j26 h
            refine xseq ?_
            refine xreg ?_
            refine wpp rfl rfl ?_
            obtain ⟨x42, hx42, h⟩ := bindS h
            refine woo rfl (ocal (sat_dn_Parse N _ _ hx42) rfl (.cons sub_rfl .nil) rfl rfl rfl) ?_
            refine wpp rfl rfl ?_
            refine wpp rfl rfl ?_
            refine wpp rfl rfl ?_
            refine wpp rfl rfl ?_
            refine wpp rfl rfl ?_
            refine xseq ?_
            refine xreg ?_
            refine wpp rfl rfl ?_
            obtain ⟨x47, hx47, h⟩ := bindS h
            refine woo rfl (ocal (sat_prefectref4_Parse N _ _ hx47) rfl (.cons sub_rfl .nil) rfl rfl rfl) ?_
            refine wpp rfl rfl ?_
            refine wpp rfl rfl ?_
            refine wpp rfl rfl ?_
            refine wpp rfl rfl ?_
            refine wpp rfl rfl ?_
            refine xseq ?_
            refine xreg ?_
            refine wpp rfl rfl ?_
            obtain ⟨x52, hx52, h⟩ := bindS h
            refine woo rfl (ocal (sat_dn_ParseRDN N _ _ hx52) rfl (.cons sub_rfl .nil) rfl rfl rfl) ?_
            refine wpp rfl rfl ?_
            refine wpp rfl rfl ?_
            refine wpp rfl rfl ?_
            refine wpp rfl rfl ?_
            refine wpp rfl rfl ?_
            refine xseq ?_
            refine xreg ?_
            refine wpp rfl rfl ?_
            obtain ⟨x57, hx57, h⟩ := bindS h
            refine woo rfl (ocal (sat_prefectref4_ParseRDN N _ _ hx57) rfl (.cons sub_rfl .nil) rfl rfl rfl) ?_
            refine wpp rfl rfl ?_
            refine wpp rfl rfl ?_
            refine wpp rfl rfl ?_
            refine wpp rfl rfl ?_
            refine wpp rfl rfl ?_
            refine xseq ?_
            obtain ⟨g6, hg6, h⟩ := bindS h
            refine xseg ⟨ofL [(0, .sl 1 (List.map (es 2 e_api_AVA) a0)), (1, .sl 2 (List.map e_api_AVA a1)), (2, .str a2), (7, .str v7j20), (8, .str v8j26), (97, .bool g6)], ofL []⟩ ?_ ?_
            · have h := hg6
              refine xreg ?_
              refine wpp rfl rfl ?_
              refine wpp rfl rfl ?_
              refine wpp rfl rfl ?_
              refine wpp rfl rfl ?_
              refine wpp rfl rfl ?_
              rcases bifS h with ⟨c7, h⟩ | ⟨c7, h⟩
              · skip
                refine wsk (gn rfl c7) ?_
                refine wsk (gn rfl c7) ?_
                refine wsk (gn rfl c7) ?_
                refine wsk (gn rfl c7) ?_
                refine wpp rfl (p_pick1 c7 rfl rfl) ?_
                refine wpp rfl rfl ?_
                refine wsk rfl ?_
                refine wsk rfl ?_
                refine wsk rfl ?_
                refine wsk rfl ?_
                refine wpp rfl rfl ?_
                refine wpp rfl rfl ?_
                refine wsk rfl ?_
                refine wsk rfl ?_
                refine wsk rfl ?_
                refine wsk rfl ?_
                refine wpp rfl rfl ?_
                refine wpp rfl rfl ?_
                refine wsk rfl ?_
                refine wsk rfl ?_
                refine wsk rfl ?_
                refine wsk (gu rfl) ?_
                refine wsk (gu rfl) ?_
                refine wsk rfl ?_
                refine wpp rfl rfl ?_
                refine wpp rfl rfl ?_
                refine wsk rfl ?_
                refine wsk rfl ?_
                refine wsk rfl ?_
                refine wsk (gu rfl) ?_
                refine wsk (gu rfl) ?_
                refine wsk rfl ?_
                refine wpp rfl rfl ?_
                obtain rfl := someS h
                exact (canon0 ⟨rfl, rfl, rfl, rfl, rfl, rfl, trivial⟩ trivial rfl rfl)
              · skip
                refine wpp (gy rfl c7) rfl ?_
                refine wpp (gy rfl c7) rfl ?_
                refine wpp (gy rfl c7) rfl ?_
                refine wpp (gy rfl c7) rfl ?_
                refine wpp rfl (p_pick0 c7 rfl rfl) ?_
                refine wpp rfl rfl ?_
                rcases bifS h with ⟨c8, h⟩ | ⟨c8, h⟩
                · skip
                  refine wsk (gn rfl c8) ?_
                  refine wsk (gn rfl c8) ?_
                  refine wsk (gn rfl c8) ?_
                  refine wsk (gn rfl c8) ?_
                  refine wpp rfl (p_pick1 c8 rfl rfl) ?_
                  refine wpp rfl rfl ?_
                  refine wsk rfl ?_
                  refine wsk rfl ?_
                  refine wsk rfl ?_
                  refine wsk rfl ?_
                  refine wpp rfl rfl ?_
                  refine wpp rfl rfl ?_
                  refine wsk rfl ?_
                  refine wsk rfl ?_
                  refine wsk rfl ?_
                  refine wsk (gu rfl) ?_
                  refine wsk (gu rfl) ?_
                  refine wsk rfl ?_
                  refine wpp rfl rfl ?_
                  refine wpp rfl rfl ?_
                  refine wsk rfl ?_
                  refine wsk rfl ?_
                  refine wsk rfl ?_
                  refine wsk (gu rfl) ?_
                  refine wsk (gu rfl) ?_
                  refine wsk rfl ?_
                  refine wpp rfl rfl ?_
                  obtain rfl := someS h
                  exact (canon0 ⟨rfl, rfl, rfl, rfl, rfl, rfl, trivial⟩ trivial rfl rfl)
                · skip
                  refine wpp (gy rfl c8) rfl ?_
                  refine wpp (gy rfl c8) rfl ?_
                  obtain ⟨x73, hx73, h⟩ := bindS h
                  refine woo (gy rfl c8) (ocal (sat_prefectlaw4_same N _ _ _ hx73) rfl (.cons sub_rfl (.cons sub_rfl .nil)) rfl rfl rfl) ?_
                  refine wpp (gy rfl c8) rfl ?_
                  refine wpp rfl (p_pick0 c8 rfl rfl) ?_
                  refine wpp rfl rfl ?_
                  rcases bifS h with ⟨c9, h⟩ | ⟨c9, h⟩
                  · skip
                    refine wsk (gn rfl c9) ?_
                    refine wsk (gn rfl c9) ?_
                    refine wsk (gn rfl c9) ?_
                    refine wsk (gn rfl c9) ?_
                    refine wpp rfl (p_pick1 c9 rfl rfl) ?_
                    refine wpp rfl rfl ?_
                    refine wsk rfl ?_
                    refine wsk rfl ?_
                    refine wsk rfl ?_
                    refine wsk (gu rfl) ?_
                    refine wsk (gu rfl) ?_
                    refine wsk rfl ?_
                    refine wpp rfl rfl ?_
                    refine wpp rfl rfl ?_
                    refine wsk rfl ?_
                    refine wsk rfl ?_
                    refine wsk rfl ?_
                    refine wsk (gu rfl) ?_
                    refine wsk (gu rfl) ?_
                    refine wsk rfl ?_
                    refine wpp rfl rfl ?_
                    obtain rfl := someS h
                    exact (canon0 ⟨rfl, rfl, rfl, rfl, rfl, rfl, trivial⟩ trivial rfl rfl)
                  · skip
                    refine wpp (gy rfl c9) rfl ?_
                    refine wpp (gy rfl c9) rfl ?_
                    obtain ⟨x79, hx79, h⟩ := bindS h
                    refine woo (gy rfl c9) (ocal (sat_prefectref4_SameRDN N _ _ _ hx79) rfl (.cons sub_rfl (.cons sub_rfl .nil)) rfl rfl rfl) ?_
                    refine wpp (gy rfl c9) rfl ?_
                    refine wpp rfl (p_pick0 c9 rfl rfl) ?_
                    refine wpp rfl rfl ?_
                    rcases bifS h with ⟨c10, h⟩ | ⟨c10, h⟩
                    · skip
                      refine wsk (gn rfl c10) ?_
                      refine wsk (gn rfl c10) ?_
                      refine wsk (gn rfl c10) ?_
                      refine wsk (gu rfl) ?_
                      refine wsk (gu rfl) ?_
                      refine wsk (gn rfl c10) ?_
                      refine wpp rfl (p_pick1 c10 rfl rfl) ?_
                      refine wpp rfl rfl ?_
                      refine wsk rfl ?_
                      refine wsk rfl ?_
                      refine wsk rfl ?_
                      refine wsk (gu rfl) ?_
                      refine wsk (gu rfl) ?_
                      refine wsk rfl ?_
                      refine wpp rfl rfl ?_
                      obtain rfl := someS h
                      exact (canon0 ⟨rfl, rfl, rfl, rfl, rfl, rfl, trivial⟩ trivial rfl rfl)
                    · skip
                      refine wpp (gy rfl c10) rfl ?_
                      refine wpp (gy rfl c10) rfl ?_
                      refine wpp (gy rfl c10) rfl ?_
                      rcases bifS h with ⟨c11, h⟩ | ⟨c11, h⟩
                      · skip
                        refine wpp (gy rfl c11) rfl ?_
                        refine wpp (gy rfl c11) rfl ?_
                        refine wpp (gy rfl c10) (p_pick1 c11 rfl rfl) ?_
                        refine wpp rfl (p_pick0 c10 rfl rfl) ?_
                        refine wpp rfl rfl ?_
                        rcases bifS h with ⟨c12, h⟩ | ⟨c12, h⟩
                        · skip
                          refine wsk (gn rfl c12) ?_
                          refine wsk (gn rfl c12) ?_
                          refine wsk (gn rfl c12) ?_
                          refine wsk (gu rfl) ?_
                          refine wsk (gu rfl) ?_
                          refine wsk (gn rfl c12) ?_
                          refine wpp rfl (p_pick1 c12 rfl rfl) ?_
                          obtain rfl := someS h
                          exact (canon0 ⟨rfl, rfl, rfl, rfl, rfl, rfl, trivial⟩ trivial rfl rfl)
                        · skip
                          refine wpp (gy rfl c12) rfl ?_
                          refine wpp (gy rfl c12) rfl ?_
                          refine wpp (gy rfl c12) rfl ?_
                          rcases bifS h with ⟨c13, h⟩ | ⟨c13, h⟩
                          · skip
                            refine wpp (gy rfl c13) rfl ?_
                            refine wpp (gy rfl c13) rfl ?_
                            refine wpp (gy rfl c12) (p_pick1 c13 rfl rfl) ?_
                            refine wpp rfl (p_pick0 c12 rfl rfl) ?_
                            obtain rfl := someS h
                            exact (canon0 ⟨rfl, rfl, rfl, rfl, rfl, rfl, trivial⟩ trivial rfl rfl)
                          · skip
                            refine wsk (gn rfl c13) ?_
                            refine wsk (gn rfl c13) ?_
                            refine wpp (gy rfl c12) (p_pick0 c13 rfl rfl) ?_
                            refine wpp rfl (p_pick0 c12 rfl rfl) ?_
                            obtain rfl := someS h
                            exact (canon0 ⟨rfl, rfl, rfl, rfl, rfl, rfl, trivial⟩ trivial rfl rfl)
                      · skip
                        refine wsk (gn rfl c11) ?_
                        refine wsk (gn rfl c11) ?_
                        refine wpp (gy rfl c10) (p_pick0 c11 rfl rfl) ?_
                        refine wpp rfl (p_pick0 c10 rfl rfl) ?_
                        refine wpp rfl rfl ?_
                        refine wpp rfl rfl ?_
                        refine wpp rfl rfl ?_
                        refine wpp rfl rfl ?_
                        rcases bifS h with ⟨c14, h⟩ | ⟨c14, h⟩
                        · skip
                          refine wpp (gy rfl c14) rfl ?_
                          refine wpp (gy rfl c14) rfl ?_
                          refine wpp rfl (p_pick1 c14 rfl rfl) ?_
                          refine wpp rfl rfl ?_
                          obtain rfl := someS h
                          exact (canon0 ⟨rfl, rfl, rfl, rfl, rfl, rfl, trivial⟩ trivial rfl rfl)
                        · skip
                          refine wsk (gn rfl c14) ?_
                          refine wsk (gn rfl c14) ?_
                          refine wpp rfl (p_pick0 c14 rfl rfl) ?_
                          refine wpp rfl rfl ?_
                          obtain rfl := someS h
                          exact (canon0 ⟨rfl, rfl, rfl, rfl, rfl, rfl, trivial⟩ trivial rfl rfl)
            · clear hg6
              rcases bifS h with ⟨c15, h⟩ | ⟨c15, h⟩
              · refine xcT rfl c15 ?_
                refine xseq ?_
                refine xreg ?_
                refine wpp rfl rfl ?_
                obtain rfl := someS h
                refine xret ?_
                exact ⟨nofun, rfl, rfl⟩
              · refine xcF rfl c15 ?_
                refine xskip ?_
                obtain ⟨g16, hg16, h⟩ := bindS h
                refine xseg ⟨ofL [(6, .bool g16)], ofL []⟩ ?_ ?_
                · have h := hg16
                  refine xreg ?_
                  refine wpp rfl rfl ?_
                  obtain ⟨x99, hx99, h⟩ := bindS h
                  refine woo rfl (ocal (sat_dn_Is N _ _ hx99) rfl (.cons sub_rfl .nil) rfl rfl rfl) ?_
                  refine wpp rfl rfl ?_
                  obtain ⟨x101, hx101, h⟩ := bindS h
                  refine woo rfl (ocal (sat_prefectref4_Is N _ _ hx101) rfl (.cons sub_rfl .nil) rfl rfl rfl) ?_
                  refine wpp rfl rfl ?_
                  refine wpp rfl rfl ?_
                  rcases bifS h with ⟨c17, h⟩ | ⟨c17, h⟩
                  · skip
                    refine wpp (gy rfl c17) rfl ?_
                    obtain ⟨x105, hx105, h⟩ := bindS h
                    refine woo (gy rfl c17) (ocal (sat_dn_IsRDN N _ _ hx105) rfl (.cons sub_rfl .nil) rfl rfl rfl) ?_
                    refine wpp (gy rfl c17) rfl ?_
                    obtain ⟨x107, hx107, h⟩ := bindS h
                    refine woo (gy rfl c17) (ocal (sat_prefectref4_IsRDN N _ _ hx107) rfl (.cons sub_rfl .nil) rfl rfl rfl) ?_
                    refine wpp (gy rfl c17) rfl ?_
                    refine wpp rfl (p_pick1 c17 rfl rfl) ?_
                    refine wpp rfl rfl ?_
                    rcases bifS h with ⟨c18, h⟩ | ⟨c18, h⟩
                    · skip
                      refine wpp (gy rfl c18) rfl ?_
                      obtain ⟨x112, hx112, h⟩ := bindS h
                      refine woo (gy rfl c18) (ocal (sat_dn_Print N _ _ hx112) rfl (.cons sub_rfl .nil) rfl rfl rfl) ?_
                      refine wpp (gy rfl c18) rfl ?_
                      refine wpp (gy rfl c18) rfl ?_
                      refine wpp rfl (p_pick1 c18 rfl rfl) ?_
                      refine wpp rfl rfl ?_
                      rcases bifS h with ⟨c19, h⟩ | ⟨c19, h⟩
                      · skip
                        refine wpp (gy rfl c19) rfl ?_
                        obtain ⟨x118, hx118, h⟩ := bindS h
                        refine woo (gy rfl c19) (ocal (sat_dn_PrintRDN N _ _ hx118) rfl (.cons sub_rfl .nil) rfl rfl rfl) ?_
                        refine wpp (gy rfl c19) rfl ?_
                        refine wpp (gy rfl c19) rfl ?_
                        refine wpp rfl (p_pick1 c19 rfl rfl) ?_
                        refine wpp rfl rfl ?_
                        rcases bifS h with ⟨c20, h⟩ | ⟨c20, h⟩
                        · skip
                          refine wpp (gy rfl c20) rfl ?_
                          obtain ⟨x124, hx124, h⟩ := bindS h
                          refine woo (gy rfl c20) (ocal (sat_dn_IsType N _ _ hx124) rfl (.cons sub_rfl .nil) rfl rfl rfl) ?_
                          refine wpp (gy rfl c20) rfl ?_
                          obtain ⟨x126, hx126, h⟩ := bindS h
                          refine woo (gy rfl c20) (ocal (sat_prefectref4_IsType N _ _ hx126) rfl (.cons sub_rfl .nil) rfl rfl rfl) ?_
                          refine wpp (gy rfl c20) rfl ?_
                          refine wpp rfl (p_pick1 c20 rfl rfl) ?_
                          refine wpp rfl rfl ?_
                          rcases bifS h with ⟨c21, h⟩ | ⟨c21, h⟩
                          · skip
                            refine wpp (gy rfl c21) rfl ?_
                            obtain ⟨x131, hx131, h⟩ := bindS h
                            refine woo (gy rfl c21) (ocal (sat_dn_Lower N _ _ hx131) rfl (.cons sub_rfl .nil) rfl rfl rfl) ?_
                            refine wpp (gy rfl c21) rfl ?_
                            obtain ⟨x133, hx133, h⟩ := bindS h
                            refine woo (gy rfl c21) (ocal (sat_prefectref4_Lower N _ _ hx133) rfl (.cons sub_rfl .nil) rfl rfl rfl) ?_
                            refine wpp (gy rfl c21) rfl ?_
                            refine wpp rfl (p_pick1 c21 rfl rfl) ?_
                            refine wpp rfl rfl ?_
                            obtain rfl := someS h
                            exact (canon0 ⟨rfl, trivial⟩ trivial rfl rfl)
                          · skip
                            refine wsk (gn rfl c21) ?_
                            refine wsk (gn rfl c21) ?_
                            refine wsk (gn rfl c21) ?_
                            refine wsk (gn rfl c21) ?_
                            refine wsk (gn rfl c21) ?_
                            refine wpp rfl (p_pick0 c21 rfl rfl) ?_
                            refine wpp rfl rfl ?_
                            obtain rfl := someS h
                            exact (canon0 ⟨rfl, trivial⟩ trivial rfl rfl)
                        · skip
                          refine wsk (gn rfl c20) ?_
                          refine wsk (gn rfl c20) ?_
                          refine wsk (gn rfl c20) ?_
                          refine wsk (gn rfl c20) ?_
                          refine wsk (gn rfl c20) ?_
                          refine wpp rfl (p_pick0 c20 rfl rfl) ?_
                          refine wpp rfl rfl ?_
                          refine wsk rfl ?_
                          refine wsk rfl ?_
                          refine wsk rfl ?_
                          refine wsk rfl ?_
                          refine wsk rfl ?_
                          refine wpp rfl rfl ?_
                          refine wpp rfl rfl ?_
                          obtain rfl := someS h
                          exact (canon0 ⟨rfl, trivial⟩ trivial rfl rfl)
                      · skip
                        refine wsk (gn rfl c19) ?_
                        refine wsk (gn rfl c19) ?_
                        refine wsk (gn rfl c19) ?_
                        refine wsk (gn rfl c19) ?_
                        refine wpp rfl (p_pick0 c19 rfl rfl) ?_
                        refine wpp rfl rfl ?_
                        refine wsk rfl ?_
                        refine wsk rfl ?_
                        refine wsk rfl ?_
                        refine wsk rfl ?_
                        refine wsk rfl ?_
                        refine wpp rfl rfl ?_
                        refine wpp rfl rfl ?_
                        refine wsk rfl ?_
                        refine wsk rfl ?_
                        refine wsk rfl ?_
                        refine wsk rfl ?_
                        refine wsk rfl ?_
                        refine wpp rfl rfl ?_
                        refine wpp rfl rfl ?_
                        obtain rfl := someS h
                        exact (canon0 ⟨rfl, trivial⟩ trivial rfl rfl)
                    · skip
                      refine wsk (gn rfl c18) ?_
                      refine wsk (gn rfl c18) ?_
                      refine wsk (gn rfl c18) ?_
                      refine wsk (gn rfl c18) ?_
                      refine wpp rfl (p_pick0 c18 rfl rfl) ?_
                      refine wpp rfl rfl ?_
                      refine wsk rfl ?_
                      refine wsk rfl ?_
                      refine wsk rfl ?_
                      refine wsk rfl ?_
                      refine wpp rfl rfl ?_
                      refine wpp rfl rfl ?_
                      refine wsk rfl ?_
                      refine wsk rfl ?_
                      refine wsk rfl ?_
                      refine wsk rfl ?_
                      refine wsk rfl ?_
                      refine wpp rfl rfl ?_
                      refine wpp rfl rfl ?_
                      refine wsk rfl ?_
                      refine wsk rfl ?_
                      refine wsk rfl ?_
                      refine wsk rfl ?_
                      refine wsk rfl ?_
                      refine wpp rfl rfl ?_
                      refine wpp rfl rfl ?_
                      obtain rfl := someS h
                      exact (canon0 ⟨rfl, trivial⟩ trivial rfl rfl)
                  · skip
                    refine wsk (gn rfl c17) ?_
                    refine wsk (gn rfl c17) ?_
                    refine wsk (gn rfl c17) ?_
                    refine wsk (gn rfl c17) ?_
                    refine wsk (gn rfl c17) ?_
                    refine wpp rfl (p_pick0 c17 rfl rfl) ?_
                    refine wpp rfl rfl ?_
                    refine wsk rfl ?_
                    refine wsk rfl ?_
                    refine wsk rfl ?_
                    refine wsk rfl ?_
                    refine wpp rfl rfl ?_
                    refine wpp rfl rfl ?_
                    refine wsk rfl ?_
                    refine wsk rfl ?_
                    refine wsk rfl ?_
                    refine wsk rfl ?_
                    refine wpp rfl rfl ?_
                    refine wpp rfl rfl ?_
                    refine wsk rfl ?_
                    refine wsk rfl ?_
                    refine wsk rfl ?_
                    refine wsk rfl ?_
                    refine wsk rfl ?_
                    refine wpp rfl rfl ?_
                    refine wpp rfl rfl ?_
                    refine wsk rfl ?_
                    refine wsk rfl ?_
                    refine wsk rfl ?_
                    refine wsk rfl ?_
                    refine wsk rfl ?_
                    refine wpp rfl rfl ?_
                    refine wpp rfl rfl ?_
                    obtain rfl := someS h
                    exact (canon0 ⟨rfl, trivial⟩ trivial rfl rfl)
                · clear hg16
                  obtain rfl := someS h
                  refine xret ?_
                  exact ⟨nofun, rfl, rfl⟩
          · skip
            refine xseq ?_
            refine xreg ?_
            refine wpp rfl rfl ?_
            obtain ⟨x37, hx37, h⟩ := bindS h
            refine woo rfl (ocal (sat_prefectref4_IsRDN N _ _ hx37) rfl (.cons sub_rfl .nil) rfl rfl rfl) ?_
            rcases bifS h with ⟨c22, h⟩ | ⟨c22, h⟩
            · refine xcT rfl c22 ?_
              refine xreg ?_
              refine wpp rfl rfl ?_
              obtain ⟨x39, hx39, h⟩ := bindS h
              refine woo rfl (ocal (sat_prefectref4_PrintRDN N _ _ hx39) rfl (.cons sub_rfl .nil) rfl rfl rfl) ?_
              refine wpp rfl rfl ?_
              exact ⟨x39, (canon0 ⟨rfl, rfl, rfl, rfl, rfl, trivial⟩ trivial rfl rfl), h⟩
            · refine xcF rfl c22 ?_
              refine xskip ?_
              exact ⟨([] : List UInt8), (canon0 ⟨rfl, rfl, rfl, rfl, rfl, trivial⟩ trivial rfl rfl), h⟩
        · skip
          refine xseq ?_
          refine xreg ?_
          refine wpp rfl rfl ?_
          obtain ⟨x33, hx33, h⟩ := bindS h
          refine woo rfl (ocal (sat_prefectref4_Is N _ _ hx33) rfl (.cons sub_rfl .nil) rfl rfl rfl) ?_
          rcases bifS h with ⟨c23, h⟩ | ⟨c23, h⟩
          · refine xcT rfl c23 ?_
            refine xreg ?_
            refine wpp rfl rfl ?_
            obtain ⟨x35, hx35, h⟩ := bindS h
            refine woo rfl (ocal (sat_prefectref4_Print N _ _ hx35) rfl (.cons sub_rfl .nil) rfl rfl rfl) ?_
            refine wpp rfl rfl ?_
            exact ⟨x35, (canon0 ⟨rfl, rfl, rfl, rfl, rfl, trivial⟩ trivial rfl rfl), h⟩
          · refine xcF rfl c23 ?_
            refine xskip ?_
            exact ⟨([] : List UInt8), (canon0 ⟨rfl, rfl, rfl, rfl, rfl, trivial⟩ trivial rfl rfl), h⟩
end Go.Gp
end
