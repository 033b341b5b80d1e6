/- A part of the proof: functions of the program and what they compute. -/
import Derived.Test.YtgjeiamilppafaaDoorA5
import Derived.Test.YtgjeiamilppafaaDoorA8
import Derived.Test.YtgjeiamilppafaaDoorA7
section
set_option linter.unusedVariables false
set_option linter.unusedSimpArgs false
set_option maxRecDepth 4000
set_option maxHeartbeats 4000000
namespace Go.Gp
open Go.Vd Go.RowKit Go.Proofs
def k3 : IC := (.seq (.reg [⟨(some 3), (.box 23 (.t 0)), none⟩, ⟨(some 4), (.box 23 (.t 1)), none⟩, ⟨(some 6), (.mov (.c (.bool false))), none⟩]) (.seq (.seq (.reg [⟨(some 12), (.call 7 []), none⟩, ⟨(some 13), (.un .not (.t 12)), none⟩]) (.cond (.t 13) (.seq (.reg [⟨(some 6), (.mov (.c (.bool false))), none⟩]) .ret) .skip)) (.seq (.seq (.reg [⟨(some 14), (.mov (.t 2)), none⟩, ⟨(some 15), (.len true (.t 14)), none⟩, ⟨(some 16), (.bin .gtr (.t 15) (.c (.int .i64 80))), none⟩]) (.cond (.t 16) (.seq (.reg [⟨(some 6), (.mov (.c (.bool true))), none⟩]) .ret) .skip)) (.seq (.reg [⟨(some 18), (.mov (.t 2)), none⟩, ⟨(some 19), (.call 8 [(.t 18)]), none⟩, ⟨(some 17), (.mov (.t 19)), none⟩, ⟨(some 20), (.ext 0 (.t 17)), none⟩, ⟨(some 21), (.ext 1 (.t 17)), none⟩, ⟨(some 7), (.box 23 (.c (.agg [(.int .i64 0), (.int .i64 0), (.int .i64 0)]))), none⟩, ⟨none, (.store 3 (.t 7) (.t 20)), none⟩, ⟨(some 8), (.mov (.t 21)), none⟩]) (.seq (.seq (.reg [⟨(some 22), (.mov (.t 8)), none⟩, ⟨(some 23), (.bin .neq (.t 22) (.c (.int .i64 0))), none⟩, ⟨(some 24), (.mov (.t 23)), none⟩, ⟨(some 25), (.mov (.t 8)), (some (24, true))⟩, ⟨(some 26), (.bin .neq (.t 25) (.c (.int .i64 14))), (some (24, true))⟩, ⟨(some 27), (.mov (.t 26)), (some (24, true))⟩, ⟨(some 28), (.load 3 true (.t 7)), (some (27, false))⟩, ⟨(some 29), (.build [(.int .i64 0), (.int .i64 0), (.int .i64 0)] []), (some (27, false))⟩, ⟨(some 30), (.eqs true [(.i .i64), (.i .i64), (.i .i64)] (.t 28) (.t 29)), (some (27, false))⟩, ⟨(some 31), (.pick (.t 27) (.c (.bool true)) (.t 30)), (some (24, true))⟩, ⟨(some 32), (.pick (.t 24) (.t 31) (.c (.bool false))), none⟩, ⟨(some 33), (.mov (.t 32)), none⟩, ⟨(some 34), (.mov (.t 8)), (some (33, false))⟩, ⟨(some 35), (.bin .eql (.t 34) (.c (.int .i64 0))), (some (33, false))⟩, ⟨(some 36), (.mov (.t 35)), (some (33, false))⟩, ⟨(some 37), (.load 3 true (.t 7)), (some (36, true))⟩, ⟨(some 38), (.call 9 [(.t 37)]), (some (36, true))⟩, ⟨(some 39), (.un .not (.t 38)), (some (36, true))⟩, ⟨(some 40), (.mov (.t 39)), (some (36, true))⟩, ⟨(some 41), (.load 3 true (.t 7)), (some (40, false))⟩, ⟨(some 42), (.call 10 [(.t 41)]), (some (40, false))⟩, ⟨(some 43), (.mov (.t 2)), (some (40, false))⟩, ⟨(some 44), (.bin .neq (.t 42) (.t 43)), (some (40, false))⟩, ⟨(some 45), (.pick (.t 40) (.c (.bool true)) (.t 44)), (some (36, true))⟩, ⟨(some 46), (.pick (.t 36) (.t 45) (.c (.bool false))), (some (33, false))⟩, ⟨(some 47), (.pick (.t 33) (.c (.bool true)) (.t 46)), none⟩]) (.cond (.t 47) (.seq (.reg [⟨(some 6), (.mov (.c (.bool false))), none⟩]) .ret) .skip)) (.seq (.reg [⟨(some 49), (.load 3 true (.t 3)), none⟩, ⟨(some 50), (.call 10 [(.t 49)]), none⟩, ⟨(some 51), (.call 8 [(.t 50)]), none⟩, ⟨(some 48), (.mov (.t 51)), none⟩, ⟨(some 52), (.ext 0 (.t 48)), none⟩, ⟨(some 53), (.ext 1 (.t 48)), none⟩, ⟨(some 9), (.box 23 (.c (.agg [(.int .i64 0), (.int .i64 0), (.int .i64 0)]))), none⟩, ⟨none, (.store 3 (.t 9) (.t 52)), none⟩, ⟨(some 10), (.mov (.t 53)), none⟩]) (.seq (.reg [⟨(some 54), (.load 3 true (.t 3)), none⟩, ⟨(some 55), (.call 9 [(.t 54)]), none⟩, ⟨(some 11), (.mov (.t 55)), none⟩]) (.seq (.regd 43 [⟨(some 56), (.load 3 true (.t 3)), none⟩, ⟨(some 57), (.call 11 [(.t 56)]), none⟩, ⟨(some 58), (.mov (.t 11)), none⟩, ⟨(some 59), (.beq false (.t 57) (.t 58)), none⟩, ⟨(some 60), (.mov (.t 59)), none⟩, ⟨(some 61), (.load 3 true (.t 3)), (some (60, true))⟩, ⟨(some 62), (.call 12 [(.t 61)]), (some (60, true))⟩, ⟨(some 63), (.load 3 true (.t 3)), (some (60, true))⟩, ⟨(some 64), (.call 13 [(.t 63)]), (some (60, true))⟩, ⟨(some 65), (.beq false (.t 62) (.t 64)), (some (60, true))⟩, ⟨(some 66), (.pick (.t 60) (.t 65) (.c (.bool false))), none⟩, ⟨(some 67), (.mov (.t 66)), none⟩, ⟨(some 68), (.load 3 true (.t 3)), (some (67, true))⟩, ⟨(some 69), (.load 3 true (.t 4)), (some (67, true))⟩, ⟨(some 70), (.call 14 [(.t 68), (.t 69)]), (some (67, true))⟩, ⟨(some 71), (.load 3 true (.t 3)), (some (67, true))⟩, ⟨(some 72), (.load 3 true (.t 4)), (some (67, true))⟩, ⟨(some 73), (.call 15 [(.t 71), (.t 72)]), (some (67, true))⟩, ⟨(some 74), (.bin .eql (.t 70) (.t 73)), (some (67, true))⟩, ⟨(some 75), (.pick (.t 67) (.t 74) (.c (.bool false))), none⟩, ⟨(some 76), (.mov (.t 75)), none⟩, ⟨(some 77), (.load 3 true (.t 3)), (some (76, true))⟩, ⟨(some 78), (.call 16 [(.t 77)]), (some (76, true))⟩, ⟨(some 79), (.load 3 true (.t 3)), (some (76, true))⟩, ⟨(some 80), (.call 10 [(.t 79)]), (some (76, true))⟩, ⟨(some 81), (.bin .eql (.t 78) (.t 80)), (some (76, true))⟩, ⟨(some 82), (.pick (.t 76) (.t 81) (.c (.bool false))), none⟩, ⟨(some 83), (.mov (.t 82)), none⟩, ⟨(some 84), (.mov (.t 10)), (some (83, true))⟩, ⟨(some 85), (.bin .eql (.t 84) (.c (.int .i64 0))), (some (83, true))⟩, ⟨(some 86), (.mov (.t 11)), (some (83, true))⟩, ⟨(some 87), (.beq false (.t 85) (.t 86)), (some (83, true))⟩, ⟨(some 88), (.pick (.t 83) (.t 87) (.c (.bool false))), none⟩, ⟨(some 89), (.mov (.t 88)), none⟩, ⟨(some 90), (.mov (.t 11)), (some (89, true))⟩, ⟨(some 91), (.un .not (.t 90)), (some (89, true))⟩, ⟨(some 92), (.mov (.t 91)), (some (89, true))⟩, ⟨(some 93), (.load 3 true (.t 9)), (some (92, false))⟩, ⟨(some 94), (.load 3 true (.t 3)), (some (92, false))⟩, ⟨(some 95), (.eqs false [(.i .i64), (.i .i64), (.i .i64)] (.t 93) (.t 94)), (some (92, false))⟩, ⟨(some 96), (.pick (.t 92) (.c (.bool true)) (.t 95)), (some (89, true))⟩, ⟨(some 97), (.pick (.t 89) (.t 96) (.c (.bool false))), none⟩, ⟨(some 6), (.mov (.t 97)), none⟩]) .ret))))))))
theorem k3_cf : cfunc Tryd.prog Tryd.f3 = some ⟨98, k3, [(.tmp 6)]⟩ := by kernel_rfl
theorem sat_prefectlaw10_CsnTells (N : Nat) (a0 : api_CSN) (a1 : api_CSN) (a2 : List UInt8) (r : Bool) (h : prefectlaw10_CsnTells N a0 a1 a2 = some r) : Sat Tryd.prog 3 noRows [e_api_CSN a0, e_api_CSN a1, .str a2] (.bool r) noRows := by
  refine xsat mixed Tryd.func3 k3_cf (rs := [.bool r]) rfl rfl ?_
  refine xseq ?_
  refine xreg ?_
  refine woo rfl (obox 4803 rfl rfl rfl rfl rfl) ?_
  refine woo rfl (obox 4804 rfl rfl rfl rfl rfl) ?_
  refine wpp rfl rfl ?_
  refine xseq ?_
  refine xseq ?_
  refine xreg ?_
  obtain ⟨x12, hx12, h⟩ := bindS h
  refine woo rfl (ocal (sat_prefectlaw10_known N _ hx12) rfl .nil rfl rfl rfl) ?_
  refine wpp rfl rfl ?_
  rcases bifS h with ⟨c1, h⟩ | ⟨c1, h⟩
  · refine xcT rfl c1 ?_
    refine xseq ?_
    refine xreg ?_
    refine wpp rfl rfl ?_
    obtain rfl := someS h
    refine xret ?_
    exact ⟨nofun, rfl, rfl⟩
  · refine xcF rfl c1 ?_
    refine xskip ?_
    refine xseq ?_
    refine xseq ?_
    refine xreg ?_
    refine wpp rfl rfl ?_
    refine wpp rfl rfl ?_
    refine wpp rfl rfl ?_
    rcases bifS h with ⟨c2, h⟩ | ⟨c2, h⟩
    · refine xcT rfl c2 ?_
      refine xseq ?_
      refine xreg ?_
      refine wpp rfl rfl ?_
      obtain rfl := someS h
      refine xret ?_
      exact ⟨nofun, rfl, rfl⟩
    · refine xcF rfl c2 ?_
      refine xskip ?_
      refine xseq ?_
      refine xreg ?_
      refine wpp rfl rfl ?_
      obtain ⟨x19, hx19, h⟩ := bindS h
      refine woo rfl (ocal (sat_csn_Parse N _ _ hx19) rfl (.cons sub_rfl .nil) rfl rfl rfl) ?_
      refine wpp rfl rfl ?_
      refine wpp rfl rfl ?_
      refine wpp rfl rfl ?_
      refine woo rfl (obox 4807 rfl rfl rfl rfl rfl) ?_
      refine wstb (e' := e_api_CSN x19.1) rfl rfl rfl rfl rfl rfl rfl rfl nofun rfl ?_
      refine wpp rfl rfl ?_
      refine xseq ?_
      obtain ⟨g3, hg3, h⟩ := bindS h
      refine xseg ⟨ofL [(3, .ptr 4803 0 0), (4, .ptr 4804 0 0), (47, .bool g3)], ofL [(4803, ⟨3, false, [e_api_CSN a0]⟩), (4804, ⟨3, false, [e_api_CSN a1]⟩)]⟩ ?_ ?_
      · have h := hg3
        refine xreg ?_
        refine wpp rfl rfl ?_
        refine wpp rfl rfl ?_
        refine wpp rfl rfl ?_
        rcases bifS h with ⟨c4, h⟩ | ⟨c4, h⟩
        · skip
          refine wpp (gy rfl c4) rfl ?_
          refine wpp (gy rfl c4) rfl ?_
          refine wpp (gy rfl c4) rfl ?_
          rcases bifS h with ⟨c5, h⟩ | ⟨c5, h⟩
          · skip
            refine wsk (gn rfl c5) ?_
            refine wsk (gn rfl c5) ?_
            refine wsk (gn rfl c5) ?_
            refine wpp (gy rfl c4) (p_pick1 c5 rfl rfl) ?_
            refine wpp rfl (p_pick1 c4 rfl rfl) ?_
            refine wpp rfl rfl ?_
            refine wsk rfl ?_
            refine wsk rfl ?_
            refine wsk rfl ?_
            refine wsk (gu rfl) ?_
            refine wsk (gu rfl) ?_
            refine wsk (gu rfl) ?_
            refine wsk (gu rfl) ?_
            refine wsk (gu rfl) ?_
            refine wsk (gu rfl) ?_
            refine wsk (gu rfl) ?_
            refine wsk (gu rfl) ?_
            refine wsk (gu rfl) ?_
            refine wsk rfl ?_
            refine wpp rfl rfl ?_
            obtain rfl := someS h
            exact (canon0 ⟨rfl, rfl, rfl, trivial⟩ ⟨rfl, rfl, trivial⟩ rfl rfl)
          · skip
            refine wpp (p := e_api_CSN x19.1) (gy rfl c5) rfl ?_
            refine wpp (p := .agg [.int .i64 0, .int .i64 0, .int .i64 0]) (gy rfl c5) rfl ?_
            refine wpp (p := .bool (!(x19.1.Time == (0 : Int) && (x19.1.Seq == (0 : Int) && (x19.1.Rep == (0 : Int) && true))))) (gy rfl c5) rfl ?_
            refine wpp (gy rfl c4) (p_pick0 c5 rfl rfl) ?_
            refine wpp rfl (p_pick1 c4 rfl rfl) ?_
            refine wpp rfl rfl ?_
            rcases bifS h with ⟨c6, h⟩ | ⟨c6, h⟩
            · skip
              refine wsk (gn rfl c6) ?_
              refine wsk (gn rfl c6) ?_
              refine wsk (gn rfl c6) ?_
              refine wsk (gu rfl) ?_
              refine wsk (gu rfl) ?_
              refine wsk (gu rfl) ?_
              refine wsk (gu rfl) ?_
              refine wsk (gu rfl) ?_
              refine wsk (gu rfl) ?_
              refine wsk (gu rfl) ?_
              refine wsk (gu rfl) ?_
              refine wsk (gu rfl) ?_
              refine wsk (gn rfl c6) ?_
              refine wpp rfl (p_pick1 c6 rfl rfl) ?_
              obtain rfl := someS h
              exact (canon0 ⟨rfl, rfl, rfl, trivial⟩ ⟨rfl, rfl, trivial⟩ rfl rfl)
            · skip
              refine wpp (gy rfl c6) rfl ?_
              refine wpp (gy rfl c6) rfl ?_
              refine wpp (gy rfl c6) rfl ?_
              rcases bifS h with ⟨c7, h⟩ | ⟨c7, h⟩
              · skip
                refine wpp (p := e_api_CSN x19.1) (gy rfl c7) rfl ?_
                obtain ⟨x38, hx38, h⟩ := bindS h
                refine woo (gy rfl c7) (ocal (sat_prefectref10_Is N _ _ hx38) rfl (.cons sub_rfl .nil) rfl rfl rfl) ?_
                refine wpp (gy rfl c7) rfl ?_
                refine wpp (gy rfl c7) rfl ?_
                rcases bifS h with ⟨c8, h⟩ | ⟨c8, h⟩
                · skip
                  refine wsk (gn rfl c8) ?_
                  refine wsk (gn rfl c8) ?_
                  refine wsk (gn rfl c8) ?_
                  refine wsk (gn rfl c8) ?_
                  refine wpp (gy rfl c7) (p_pick1 c8 rfl rfl) ?_
                  refine wpp (gy rfl c6) (p_pick1 c7 rfl rfl) ?_
                  refine wpp rfl (p_pick0 c6 rfl rfl) ?_
                  obtain rfl := someS h
                  exact (canon0 ⟨rfl, rfl, rfl, trivial⟩ ⟨rfl, rfl, trivial⟩ rfl rfl)
                · skip
                  refine wpp (p := e_api_CSN x19.1) (gy rfl c8) rfl ?_
                  obtain ⟨x42, hx42, h⟩ := bindS h
                  refine woo (gy rfl c8) (ocal (sat_prefectref10_Text N _ _ hx42) rfl (.cons sub_rfl .nil) rfl rfl rfl) ?_
                  refine wpp (gy rfl c8) rfl ?_
                  refine wpp (gy rfl c8) rfl ?_
                  refine wpp (gy rfl c7) (p_pick0 c8 rfl rfl) ?_
                  refine wpp (gy rfl c6) (p_pick1 c7 rfl rfl) ?_
                  refine wpp rfl (p_pick0 c6 rfl rfl) ?_
                  obtain rfl := someS h
                  exact (canon0 ⟨rfl, rfl, rfl, trivial⟩ ⟨rfl, rfl, trivial⟩ rfl rfl)
              · skip
                refine wsk (gn rfl c7) ?_
                refine wsk (gn rfl c7) ?_
                refine wsk (gn rfl c7) ?_
                refine wsk (gn rfl c7) ?_
                refine wsk (gu rfl) ?_
                refine wsk (gu rfl) ?_
                refine wsk (gu rfl) ?_
                refine wsk (gu rfl) ?_
                refine wsk (gn rfl c7) ?_
                refine wpp (gy rfl c6) (p_pick0 c7 rfl rfl) ?_
                refine wpp rfl (p_pick0 c6 rfl rfl) ?_
                obtain rfl := someS h
                exact (canon0 ⟨rfl, rfl, rfl, trivial⟩ ⟨rfl, rfl, trivial⟩ rfl rfl)
        · skip
          refine wsk (gn rfl c4) ?_
          refine wsk (gn rfl c4) ?_
          refine wsk (gn rfl c4) ?_
          refine wsk (gu rfl) ?_
          refine wsk (gu rfl) ?_
          refine wsk (gu rfl) ?_
          refine wsk (gn rfl c4) ?_
          refine wpp rfl (p_pick0 c4 rfl rfl) ?_
          refine wpp rfl rfl ?_
          refine wpp rfl rfl ?_
          refine wpp rfl rfl ?_
          refine wpp rfl rfl ?_
          rcases bifS h with ⟨c9, h⟩ | ⟨c9, h⟩
          · skip
            refine wpp (p := e_api_CSN x19.1) (gy rfl c9) rfl ?_
            obtain ⟨x38, hx38, h⟩ := bindS h
            refine woo (gy rfl c9) (ocal (sat_prefectref10_Is N _ _ hx38) rfl (.cons sub_rfl .nil) rfl rfl rfl) ?_
            refine wpp (gy rfl c9) rfl ?_
            refine wpp (gy rfl c9) rfl ?_
            rcases bifS h with ⟨c10, h⟩ | ⟨c10, h⟩
            · skip
              refine wsk (gn rfl c10) ?_
              refine wsk (gn rfl c10) ?_
              refine wsk (gn rfl c10) ?_
              refine wsk (gn rfl c10) ?_
              refine wpp (gy rfl c9) (p_pick1 c10 rfl rfl) ?_
              refine wpp rfl (p_pick1 c9 rfl rfl) ?_
              refine wpp rfl rfl ?_
              obtain rfl := someS h
              exact (canon0 ⟨rfl, rfl, rfl, trivial⟩ ⟨rfl, rfl, trivial⟩ rfl rfl)
            · skip
              refine wpp (p := e_api_CSN x19.1) (gy rfl c10) rfl ?_
              obtain ⟨x42, hx42, h⟩ := bindS h
              refine woo (gy rfl c10) (ocal (sat_prefectref10_Text N _ _ hx42) rfl (.cons sub_rfl .nil) rfl rfl rfl) ?_
              refine wpp (gy rfl c10) rfl ?_
              refine wpp (gy rfl c10) rfl ?_
              refine wpp (gy rfl c9) (p_pick0 c10 rfl rfl) ?_
              refine wpp rfl (p_pick1 c9 rfl rfl) ?_
              refine wpp rfl rfl ?_
              obtain rfl := someS h
              exact (canon0 ⟨rfl, rfl, rfl, trivial⟩ ⟨rfl, rfl, trivial⟩ rfl rfl)
          · skip
            refine wsk (gn rfl c9) ?_
            refine wsk (gn rfl c9) ?_
            refine wsk (gn rfl c9) ?_
            refine wsk (gn rfl c9) ?_
            refine wsk (gu rfl) ?_
            refine wsk (gu rfl) ?_
            refine wsk (gu rfl) ?_
            refine wsk (gu rfl) ?_
            refine wsk (gn rfl c9) ?_
            refine wpp rfl (p_pick0 c9 rfl rfl) ?_
            refine wpp rfl rfl ?_
            obtain rfl := someS h
            exact (canon0 ⟨rfl, rfl, rfl, trivial⟩ ⟨rfl, rfl, trivial⟩ rfl rfl)
      · clear hg3
        rcases bifS h with ⟨c11, h⟩ | ⟨c11, h⟩
        · refine xcT rfl c11 ?_
          refine xseq ?_
          refine xreg ?_
          refine wpp rfl rfl ?_
          obtain rfl := someS h
          refine xret ?_
          exact ⟨nofun, rfl, rfl⟩
        · refine xcF rfl c11 ?_
          refine xskip ?_
          refine xseq ?_
          refine xreg ?_
          refine wpp (p := e_api_CSN a0) rfl rfl ?_
          obtain ⟨x50, hx50, h⟩ := bindS h
          refine woo rfl (ocal (sat_prefectref10_Text N _ _ hx50) rfl (.cons sub_rfl .nil) rfl rfl rfl) ?_
          obtain ⟨x51, hx51, h⟩ := bindS h
          refine woo rfl (ocal (sat_csn_Parse N _ _ hx51) rfl (.cons sub_rfl .nil) rfl rfl rfl) ?_
          refine wpp rfl rfl ?_
          refine wpp rfl rfl ?_
          refine wpp rfl rfl ?_
          refine woo rfl (obox 4809 rfl rfl rfl rfl rfl) ?_
          refine wstb (e' := e_api_CSN x51.1) rfl rfl rfl rfl rfl rfl rfl rfl nofun rfl ?_
          refine wpp rfl rfl ?_
          refine xseq ?_
          refine xreg ?_
          refine wpp (p := e_api_CSN a0) rfl rfl ?_
          obtain ⟨x55, hx55, h⟩ := bindS h
          refine woo rfl (ocal (sat_prefectref10_Is N _ _ hx55) rfl (.cons sub_rfl .nil) rfl rfl rfl) ?_
          refine wpp rfl rfl ?_
          obtain ⟨g12, hg12, h⟩ := bindS h
          refine xseg ⟨ofL [(6, .bool g12)], ofL []⟩ ?_ ?_
          · have h := hg12
            refine xregd ?_
            refine wdp (p := e_api_CSN a0) rfl rfl ?_
            obtain ⟨x57, hx57, h⟩ := bindS h
            refine wdN rfl (pcal (sat_csn_Is N _ _ hx57) rfl (.cons sub_rfl .nil) rfl rfl rfl) no_fresh ?_
            refine wdp rfl rfl ?_
            refine wdp rfl rfl ?_
            refine wdp rfl rfl ?_
            rcases bifS h with ⟨c13, h⟩ | ⟨c13, h⟩
            · skip
              refine wdp (p := e_api_CSN a0) (gy rfl c13) rfl ?_
              obtain ⟨x62, hx62, h⟩ := bindS h
              refine wdN (gy rfl c13) (pcal (sat_csn_Zero N _ _ hx62) rfl (.cons sub_rfl .nil) rfl rfl rfl) no_fresh ?_
              refine wdp (p := e_api_CSN a0) (gy rfl c13) rfl ?_
              obtain ⟨x64, hx64, h⟩ := bindS h
              refine wdN (gy rfl c13) (pcal (sat_prefectref10_Zero N _ _ hx64) rfl (.cons sub_rfl .nil) rfl rfl rfl) no_fresh ?_
              refine wdp (gy rfl c13) rfl ?_
              refine wdp rfl (p_pick1 c13 rfl rfl) ?_
              refine wdp rfl rfl ?_
              rcases bifS h with ⟨c14, h⟩ | ⟨c14, h⟩
              · skip
                refine wdp (p := e_api_CSN a0) (gy rfl c14) rfl ?_
                refine wdp (p := e_api_CSN a1) (gy rfl c14) rfl ?_
                obtain ⟨x70, hx70, h⟩ := bindS h
                refine wdN (gy rfl c14) (pcal (sat_csn_Cmp N _ _ _ hx70) rfl (.cons sub_rfl (.cons sub_rfl .nil)) rfl rfl rfl) no_fresh ?_
                refine wdp (p := e_api_CSN a0) (gy rfl c14) rfl ?_
                refine wdp (p := e_api_CSN a1) (gy rfl c14) rfl ?_
                obtain ⟨x73, hx73, h⟩ := bindS h
                refine wdN (gy rfl c14) (pcal (sat_prefectref10_Cmp N _ _ _ hx73) rfl (.cons sub_rfl (.cons sub_rfl .nil)) rfl rfl rfl) no_fresh ?_
                refine wdp (gy rfl c14) rfl ?_
                refine wdp rfl (p_pick1 c14 rfl rfl) ?_
                refine wdp rfl rfl ?_
                rcases bifS h with ⟨c15, h⟩ | ⟨c15, h⟩
                · skip
                  refine wdp (p := e_api_CSN a0) (gy rfl c15) rfl ?_
                  obtain ⟨x78, hx78, h⟩ := bindS h
                  refine wdN (gy rfl c15) (pcal (sat_csn_Text N _ _ hx78) rfl (.cons sub_rfl .nil) rfl rfl rfl) no_fresh ?_
                  refine wdp (p := e_api_CSN a0) (gy rfl c15) rfl ?_
                  obtain ⟨x80, hx80, h⟩ := bindS h
                  refine wdN (gy rfl c15) (pcal (sat_prefectref10_Text N _ _ hx80) rfl (.cons sub_rfl .nil) rfl rfl rfl) no_fresh ?_
                  refine wdp (gy rfl c15) rfl ?_
                  refine wdp rfl (p_pick1 c15 rfl rfl) ?_
                  refine wdp rfl rfl ?_
                  rcases bifS h with ⟨c16, h⟩ | ⟨c16, h⟩
                  · skip
                    refine wdp (gy rfl c16) rfl ?_
                    refine wdp (gy rfl c16) rfl ?_
                    refine wdp (gy rfl c16) rfl ?_
                    refine wdp (gy rfl c16) rfl ?_
                    refine wdp rfl (p_pick1 c16 rfl rfl) ?_
                    refine wdp rfl rfl ?_
                    rcases bifS h with ⟨c17, h⟩ | ⟨c17, h⟩
                    · skip
                      refine wdp (gy rfl c17) rfl ?_
                      refine wdp (gy rfl c17) rfl ?_
                      refine wdp (gy rfl c17) rfl ?_
                      rcases bifS h with ⟨c18, h⟩ | ⟨c18, h⟩
                      · skip
                        refine wdn (gn rfl c18) ?_
                        refine wdn (gn rfl c18) ?_
                        refine wdn (gn rfl c18) ?_
                        refine wdp (gy rfl c17) (p_pick1 c18 rfl rfl) ?_
                        refine wdp rfl (p_pick1 c17 rfl rfl) ?_
                        refine wdp rfl rfl ?_
                        obtain rfl := someS h
                        exact (canon0 ⟨rfl, trivial⟩ trivial rfl rfl)
                      · skip
                        refine wdp (p := e_api_CSN x51.1) (gy rfl c18) rfl ?_
                        refine wdp (p := e_api_CSN a0) (gy rfl c18) rfl ?_
                        refine wdp (p := .bool (x51.1.Time == a0.Time && (x51.1.Seq == a0.Seq && (x51.1.Rep == a0.Rep && true)))) (gy rfl c18) rfl ?_
                        refine wdp (gy rfl c17) (p_pick0 c18 rfl rfl) ?_
                        refine wdp rfl (p_pick1 c17 rfl rfl) ?_
                        refine wdp rfl rfl ?_
                        obtain rfl := someS h
                        exact (canon0 ⟨rfl, trivial⟩ trivial rfl rfl)
                    · skip
                      refine wdn (gn rfl c17) ?_
                      refine wdn (gn rfl c17) ?_
                      refine wdn (gn rfl c17) ?_
                      refine wdn (gu rfl) ?_
                      refine wdn (gu rfl) ?_
                      refine wdn (gu rfl) ?_
                      refine wdn (gn rfl c17) ?_
                      refine wdp rfl (p_pick0 c17 rfl rfl) ?_
                      refine wdp rfl rfl ?_
                      obtain rfl := someS h
                      exact (canon0 ⟨rfl, trivial⟩ trivial rfl rfl)
                  · skip
                    refine wdn (gn rfl c16) ?_
                    refine wdn (gn rfl c16) ?_
                    refine wdn (gn rfl c16) ?_
                    refine wdn (gn rfl c16) ?_
                    refine wdp rfl (p_pick0 c16 rfl rfl) ?_
                    refine wdp rfl rfl ?_
                    refine wdn rfl ?_
                    refine wdn rfl ?_
                    refine wdn rfl ?_
                    refine wdn (gu rfl) ?_
                    refine wdn (gu rfl) ?_
                    refine wdn (gu rfl) ?_
                    refine wdn rfl ?_
                    refine wdp rfl rfl ?_
                    refine wdp rfl rfl ?_
                    obtain rfl := someS h
                    exact (canon0 ⟨rfl, trivial⟩ trivial rfl rfl)
                · skip
                  refine wdn (gn rfl c15) ?_
                  refine wdn (gn rfl c15) ?_
                  refine wdn (gn rfl c15) ?_
                  refine wdn (gn rfl c15) ?_
                  refine wdn (gn rfl c15) ?_
                  refine wdp rfl (p_pick0 c15 rfl rfl) ?_
                  refine wdp rfl rfl ?_
                  refine wdn rfl ?_
                  refine wdn rfl ?_
                  refine wdn rfl ?_
                  refine wdn rfl ?_
                  refine wdp rfl rfl ?_
                  refine wdp rfl rfl ?_
                  refine wdn rfl ?_
                  refine wdn rfl ?_
                  refine wdn rfl ?_
                  refine wdn (gu rfl) ?_
                  refine wdn (gu rfl) ?_
                  refine wdn (gu rfl) ?_
                  refine wdn rfl ?_
                  refine wdp rfl rfl ?_
                  refine wdp rfl rfl ?_
                  obtain rfl := someS h
                  exact (canon0 ⟨rfl, trivial⟩ trivial rfl rfl)
              · skip
                refine wdn (gn rfl c14) ?_
                refine wdn (gn rfl c14) ?_
                refine wdn (gn rfl c14) ?_
                refine wdn (gn rfl c14) ?_
                refine wdn (gn rfl c14) ?_
                refine wdn (gn rfl c14) ?_
                refine wdn (gn rfl c14) ?_
                refine wdp rfl (p_pick0 c14 rfl rfl) ?_
                refine wdp rfl rfl ?_
                refine wdn rfl ?_
                refine wdn rfl ?_
                refine wdn rfl ?_
                refine wdn rfl ?_
                refine wdn rfl ?_
                refine wdp rfl rfl ?_
                refine wdp rfl rfl ?_
                refine wdn rfl ?_
                refine wdn rfl ?_
                refine wdn rfl ?_
                refine wdn rfl ?_
                refine wdp rfl rfl ?_
                refine wdp rfl rfl ?_
                refine wdn rfl ?_
                refine wdn rfl ?_
                refine wdn rfl ?_
                refine wdn (gu rfl) ?_
                refine wdn (gu rfl) ?_
                refine wdn (gu rfl) ?_
                refine wdn rfl ?_
                refine wdp rfl rfl ?_
                refine wdp rfl rfl ?_
                obtain rfl := someS h
                exact (canon0 ⟨rfl, trivial⟩ trivial rfl rfl)
            · skip
              refine wdn (gn rfl c13) ?_
              refine wdn (gn rfl c13) ?_
              refine wdn (gn rfl c13) ?_
              refine wdn (gn rfl c13) ?_
              refine wdn (gn rfl c13) ?_
              refine wdp rfl (p_pick0 c13 rfl rfl) ?_
              refine wdp rfl rfl ?_
              refine wdn rfl ?_
              refine wdn rfl ?_
              refine wdn rfl ?_
              refine wdn rfl ?_
              refine wdn rfl ?_
              refine wdn rfl ?_
              refine wdn rfl ?_
              refine wdp rfl rfl ?_
              refine wdp rfl rfl ?_
              refine wdn rfl ?_
              refine wdn rfl ?_
              refine wdn rfl ?_
              refine wdn rfl ?_
              refine wdn rfl ?_
              refine wdp rfl rfl ?_
              refine wdp rfl rfl ?_
              refine wdn rfl ?_
              refine wdn rfl ?_
              refine wdn rfl ?_
              refine wdn rfl ?_
              refine wdp rfl rfl ?_
              refine wdp rfl rfl ?_
              refine wdn rfl ?_
              refine wdn rfl ?_
              refine wdn rfl ?_
              refine wdn (gu rfl) ?_
              refine wdn (gu rfl) ?_
              refine wdn (gu rfl) ?_
              refine wdn rfl ?_
              refine wdp rfl rfl ?_
              refine wdp rfl rfl ?_
              obtain rfl := someS h
              exact (canon0 ⟨rfl, trivial⟩ trivial rfl rfl)
          · clear hg12
            obtain rfl := someS h
            refine xret ?_
            exact ⟨nofun, rfl, rfl⟩
end Go.Gp
end
